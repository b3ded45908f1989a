/- A filled store: the plain part. -/
import Derived.Test.YtioboahhiklolaaA3
import Derived.Test.YtioboahhiklolaaFo
namespace Go.Proofs.Ytioboahhiklolaa
set_option linter.unusedVariables false
set_option linter.unusedSimpArgs false
open Go.RowKit
def nowF (lo hi i : Int) : Nat → Int → Int
  | 0, n => n
  | k + 1, n => nowF lo hi i k (n + limI i (hi - n) (hi - lo))
theorem fillF_iter {lo hi i level h : Int} : ∀ (fuel : Nat) (hours now : Int), fillF lo hi i level fuel hours now = (h, 0) → ∃ k : Nat, h = hours + k ∧ level ≤ nowF lo hi i k now ∧ ∀ j, j < k → nowF lo hi i j now < level
  | 0, hours, now, e => by rw [fillF] at e; injection e with _ e; cases e
  | fuel + 1, hours, now, e => by
    rw [fillF] at e
    by_cases hl : level ≤ now
    · rw [if_pos hl] at e; injection e with e; exact ⟨0, by simp [e], hl, fun j hj => by omega⟩
    · rw [if_neg hl] at e
      obtain ⟨k, h1, h2, h3⟩ := fillF_iter fuel _ _ e
      refine ⟨k + 1, by rw [h1]; simp; omega, h2, fun j hj => ?_⟩
      cases j with
      | zero => simp only [nowF]; omega
      | succ j => exact h3 j (by omega)
theorem limI_le {rate room whole : Int} (h0 : 0 ≤ rate) (h1 : 0 ≤ room) (h2 : room ≤ whole) (h3 : 0 < whole) : limI rate room whole ≤ rate := by
  have h := Int.mul_le_mul_of_nonneg_left h2 h0
  have hd : (rate * room + whole - 1) / whole < rate + 1 := Int.ediv_lt_of_lt_mul h3 (by rw [Int.add_mul]; omega)
  unfold limI; omega
theorem mv_full {lo hi now i o : Int} (h : storeB lo hi now i o = true) : mvF lo hi i o now 30000 = limI i (hi - now) (hi - lo) := by
  obtain ⟨h1, h2, h3, h4, h5, h6, h7, h8, h9⟩ := store_of h
  obtain ⟨q1, q2⟩ := limI_bd (rate := i) (room := hi - now) (whole := hi - lo) h6 (by omega) (by omega)
  obtain ⟨q3, q4⟩ := limI_bd (rate := o) (room := now - lo) (whole := hi - lo) h8 (by omega) (by omega)
  have q5 := limI_le (rate := i) (room := hi - now) (whole := hi - lo) h6 (by omega) (by omega) (by omega)
  unfold mvF; omega
theorem fol_rep {lo hi i o : Int} : ∀ (k : Nat) (now left : Int), storeB lo hi now i o = true → (folF lo hi i o (List.replicate k 30000) now left).1 = nowF lo hi i k now
  | 0, now, left, _ => rfl
  | k + 1, now, left, h => by
    rw [List.replicate_succ, folF, nowF, mv_full h]
    exact fol_rep k _ _ (store_step h)
theorem allB_rep : ∀ k : Nat, allB (-30000) 30000 (List.replicate k 30000) = true := fun k => allB_iff.2 fun x hx => by
  have := List.eq_of_mem_replicate hx; omega
/-- what the law asks of a filled store -/
theorem filled {lo hi now i o level h : Int} (hf : fillR lo hi now i o level = (h, 0)) (h1 : 1 ≤ h) (h2 : h ≤ 48) :
    ∃ m : Nat, h = m + 1 ∧ m ≤ 47 ∧ ∃ X Y L1 L2 : Int, X < level ∧ level ≤ Y ∧ folR lo hi now i o (List.replicate m 30000) = ⟨lo, hi, X, i, o, L1, 0⟩ ∧ folR lo hi now i o (List.replicate (m + 1) 30000) = ⟨lo, hi, Y, i, o, L2, 0⟩ := by
  unfold fillR at hf
  cases hs : storeB lo hi now i o
  · rw [if_pos hs] at hf; injection hf with _ e; cases e
  rw [if_neg (by simp [hs])] at hf
  cases hb : inB level lo hi
  · rw [if_pos hb] at hf; injection hf with _ e; cases e
  rw [if_neg (by simp [hb])] at hf
  obtain ⟨k, e1, e2, e3⟩ := fillF_iter _ _ _ hf
  have hk : ∃ m, k = m + 1 := ⟨k - 1, by simp at e1; omega⟩
  obtain ⟨m, rfl⟩ := hk
  have e1 : h = (m : Int) + 1 := by simp at e1; omega
  have hC : ∀ q : Nat, q ≤ 48 → folR lo hi now i o (List.replicate q 30000) = ⟨lo, hi, nowF lo hi i q now, i, o, (folF lo hi i o (List.replicate q 30000) now 0).2, 0⟩ := fun q hq => by
    have hc : folC lo hi now i o (List.replicate q 30000) = 0 := by
      unfold folC; rw [if_neg (by simp [hs]), if_neg (by simp; omega), if_neg (by simp [allB_rep])]
    unfold folR; rw [if_pos hc, fol_rep _ _ _ hs]
  exact ⟨m, e1, by omega, _, _, _, _, e3 m (by omega), e2, hC m (by omega), hC (m + 1) (by omega)⟩
end Go.Proofs.Ytioboahhiklolaa
