/- Shares by greatest rests: the plain mathematics. -/
import Derived.Test.YtkagnkecgkmpcaaSu
namespace Go.Proofs.Ytkagnkecgkmpcaa
set_option linter.unusedVariables false
set_option linter.unusedSimpArgs false
open Go.RowKit
/-- the greatest number of x :: l -/
def maxF (x : Int) : List Int → Int
  | [] => x
  | y :: l => maxF (max x y) l
/-- the first place of the greatest number: b is the best so far, with value x; k the next place -/
def bestF (b : Nat) (x : Int) (k : Nat) : List Int → Nat
  | [] => b
  | y :: l => if x < y then bestF k y (k + 1) l else bestF b x (k + 1) l
def best : List Int → Nat
  | [] => 0
  | x :: l => bestF 0 x 1 l
theorem maxF_ge (x : Int) (l : List Int) : x ≤ maxF x l ∧ ∀ y ∈ l, y ≤ maxF x l := by
  induction l generalizing x with
  | nil => simp [maxF]
  | cons z l ih =>
    obtain ⟨h1, h2⟩ := ih (max x z)
    simp only [maxF]
    refine ⟨by omega, fun y hy => ?_⟩
    rcases List.mem_cons.1 hy with rfl | hy
    · omega
    · exact h2 y hy
theorem maxF_mem (x : Int) (l : List Int) : maxF x l = x ∨ maxF x l ∈ l := by
  induction l generalizing x with
  | nil => simp [maxF]
  | cons z l ih =>
    simp only [maxF]
    rcases ih (max x z) with h | h
    · rcases Int.le_total x z with hz | hz
      · right; rw [h, Int.max_eq_right hz]; simp
      · left; rw [h, Int.max_eq_left hz]
    · right; exact List.mem_cons_of_mem _ h
/-- k is the first place of a greatest number of l -/
def IsBest (l : List Int) (k : Nat) : Prop := ∃ x, l[k]? = some x ∧ (∀ y ∈ l, y ≤ x) ∧ ∀ j y, j < k → l[j]? = some y → y < x
theorem IsBest.uniq {l : List Int} {a b : Nat} (ha : IsBest l a) (hb : IsBest l b) : a = b := by
  obtain ⟨x, h1, h2, h3⟩ := ha
  obtain ⟨y, k1, k2, k3⟩ := hb
  have e1 := h2 y (List.mem_of_getElem? k1)
  have e2 := k2 x (List.mem_of_getElem? h1)
  rcases Nat.lt_trichotomy a b with h | h | h
  · have := k3 a x h h1; omega
  · exact h
  · have := h3 b y h k1; omega
theorem bestF_is (l0 : List Int) : ∀ (l : List Int) (b : Nat) (x : Int) (k : Nat), l0.drop k = l → b < k → l0[b]? = some x → (∀ j y, j < k → l0[j]? = some y → y ≤ x) → (∀ j y, j < b → l0[j]? = some y → y < x) → IsBest l0 (bestF b x k l) := by
  intro l
  induction l with
  | nil =>
    intro b x k hd hb hx hle hlt
    refine ⟨x, hx, fun y hy => ?_, hlt⟩
    obtain ⟨j, hj⟩ := List.getElem?_of_mem hy
    refine hle j y ?_ hj
    have : j < l0.length := (List.getElem?_eq_some_iff.1 hj).1
    have h2 : l0.length ≤ k := by
      have := congrArg List.length hd
      simp at this; omega
    omega
  | cons y l ih =>
    intro b x k hd hb hx hle hlt
    have hy : l0[k]? = some y := by
      have : (l0.drop k)[0]? = some y := by rw [hd]; rfl
      simpa using this
    have hd' : l0.drop (k + 1) = l := by rw [← List.drop_drop, hd]; rfl
    unfold bestF
    by_cases h : x < y
    · rw [if_pos h]
      refine ih k y (k + 1) hd' (by omega) hy (fun j z hj hz => ?_) (fun j z hj hz => ?_)
      · rcases Nat.lt_or_ge j k with hjk | hjk
        · have := hle j z hjk hz; omega
        · have : j = k := by omega
          subst this; rw [hy] at hz; injection hz with hz; omega
      · have := hle j z hj hz; omega
    · rw [if_neg h]
      refine ih b x (k + 1) hd' (by omega) hx (fun j z hj hz => ?_) hlt
      rcases Nat.lt_or_ge j k with hjk | hjk
      · exact hle j z hjk hz
      · have : j = k := by omega
        subst this; rw [hy] at hz; injection hz with hz; omega
theorem best_is {l : List Int} (h : l ≠ []) : IsBest l (best l) := by
  cases l with
  | nil => exact absurd rfl h
  | cons x l =>
    refine bestF_is (x :: l) l 0 x 1 rfl (by omega) rfl (fun j y hj hy => ?_) (fun j y hj _ => by omega)
    have : j = 0 := by omega
    subst this; simp at hy; omega
theorem IsBest.lt {l : List Int} {k : Nat} (h : IsBest l k) : k < l.length := by obtain ⟨x, h1, _⟩ := h; exact (List.getElem?_eq_some_iff.1 h1).1
/-- the number at a place, one more -/
def inc (l : List Int) (k : Nat) : List Int := match l[k]? with
  | some x => l.set k (x + 1)
  | none => l
theorem inc_len (l : List Int) (k : Nat) : (inc l k).length = l.length := by unfold inc; split <;> simp
/-- n rests are rounded up, the greatest first -/
def spread : Nat → List Int → List Int → List Int
  | 0, sh, _ => sh
  | n + 1, sh, rs => spread n (inc sh (best rs)) (rs.set (best rs) (-1))
theorem spread_len : ∀ (n : Nat) (sh rs : List Int), (spread n sh rs).length = sh.length
  | 0, sh, rs => rfl
  | n + 1, sh, rs => by rw [spread, spread_len n, inc_len]
def shareF (total s : Int) (ws : List Int) : List Int := ws.map fun x => total * x / s
def restF (total s : Int) (ws : List Int) : List Int := ws.map fun x => total * x % s
def sharesF (total : Int) (ws : List Int) : List Int :=
  spread (total - sumF (shareF total (sumF ws) ws)).toNat (shareF total (sumF ws) ws) (restF total (sumF ws) ws)
theorem sharesF_len (total : Int) (ws : List Int) : (sharesF total ws).length = ws.length := by rw [sharesF, spread_len, shareF, List.length_map]
theorem sumF_nonneg : ∀ {l : List Int}, (∀ x ∈ l, 0 ≤ x) → 0 ≤ sumF l
  | [], _ => by simp [sumF]
  | x :: l, h => by
    have h1 := h x (by simp)
    have h2 := sumF_nonneg (l := l) (fun y hy => h y (by simp [hy]))
    simp only [sumF]; omega
theorem sumF_le {m : Int} : ∀ {l : List Int}, (∀ x ∈ l, x ≤ m) → sumF l ≤ l.length * m
  | [], _ => by simp [sumF]
  | x :: l, h => by
    have h1 := h x (by simp)
    have h2 := sumF_le (m := m) (l := l) (fun y hy => h y (by simp [hy]))
    simp only [sumF, List.length_cons]
    have : ((l.length + 1 : Nat) : Int) * m = l.length * m + m := by rw [Int.natCast_add, Int.add_mul]; simp
    omega
theorem mem_le_sumF : ∀ {l : List Int}, (∀ x ∈ l, 0 ≤ x) → ∀ x ∈ l, x ≤ sumF l
  | [], _, x, hx => by simp at hx
  | y :: l, h, x, hx => by
    have h0 := sumF_nonneg (l := l) (fun z hz => h z (by simp [hz]))
    have h1 := h y (by simp)
    simp only [sumF]
    rcases List.mem_cons.1 hx with rfl | hx
    · omega
    · have := mem_le_sumF (l := l) (fun z hz => h z (by simp [hz])) x hx; omega
theorem sum_split (total s : Int) (hs : 0 < s) : ∀ ws : List Int, sumF (shareF total s ws) * s + sumF (restF total s ws) = total * sumF ws
  | [] => by simp [shareF, restF, sumF]
  | x :: ws => by
    have ih := sum_split total s hs ws
    have e := Int.mul_ediv_add_emod (total * x) s
    simp only [shareF, restF, List.map_cons, sumF] at ih ⊢
    rw [Int.add_mul, Int.mul_add, ← ih]
    have : total * x / s * s = s * (total * x / s) := Int.mul_comm _ _
    omega
/-- what is left over is what the rests add up to -/
theorem left_rest {total : Int} {ws : List Int} (hs : 0 < sumF ws) : (total - sumF (shareF total (sumF ws) ws)) * sumF ws = sumF (restF total (sumF ws) ws) := by
  have := sum_split total (sumF ws) hs ws
  rw [Int.sub_mul]; omega
theorem rest_bd {total s : Int} {ws : List Int} (hs : 0 < s) : ∀ x ∈ restF total s ws, 0 ≤ x ∧ x ≤ s - 1 := by
  intro x hx
  obtain ⟨y, _, rfl⟩ := List.mem_map.1 hx
  have h1 := Int.emod_nonneg (total * y) (show s ≠ 0 by omega)
  have h2 := Int.emod_lt_of_pos (total * y) hs
  omega
theorem left_bd {total : Int} {ws : List Int} (hs : 0 < sumF ws) : 0 ≤ total - sumF (shareF total (sumF ws) ws) ∧ total - sumF (shareF total (sumF ws) ws) ≤ ws.length := by
  have h1 := left_rest (total := total) hs
  have h2 := sumF_nonneg (l := restF total (sumF ws) ws) (fun x hx => (rest_bd hs x hx).1)
  have h3 := sumF_le (m := sumF ws) (l := restF total (sumF ws) ws) (fun x hx => by have := (rest_bd hs x hx).2; omega)
  have h4 : (restF total (sumF ws) ws).length = ws.length := by simp [restF]
  rw [h4] at h3
  generalize total - sumF (shareF total (sumF ws) ws) = d at h1
  constructor
  · refine Int.le_of_lt_add_one (Int.lt_of_not_ge fun h => ?_)
    have : (d + 1) * sumF ws ≤ 0 := Int.mul_nonpos_of_nonpos_of_nonneg h (by omega)
    rw [Int.add_mul] at this
    omega
  · refine Int.le_of_not_gt fun h => ?_
    have : (ws.length + 1) * sumF ws ≤ d * sumF ws := Int.mul_le_mul_of_nonneg_right (by omega) (by omega)
    rw [Int.add_mul] at this
    omega
end Go.Proofs.Ytkagnkecgkmpcaa
