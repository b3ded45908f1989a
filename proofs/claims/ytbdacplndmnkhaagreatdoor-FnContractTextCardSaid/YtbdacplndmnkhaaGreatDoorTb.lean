/- A drawn region by a table of its values, the frame made of the numbers of the slots that it writes. -/
import Derived.Test.YtbdacplndmnkhaaGreatDoorRgt
namespace Go.Proofs.YtbdacplndmnkhaaGreatDoor
set_option linter.unusedVariables false
set_option linter.unusedSimpArgs false
open Go.RowKit
def frs (a : Act) : List (Option Nat) → (Nat → Value) → Nat → Act
  | [], _, _ => a
  | none :: ds, u, k => frs a ds u (k + 1)
  | some d :: ds, u, k => frs (a.put (some d) (u k)) ds u (k + 1)
def slot0 (a : Act) (ds : List (Option Nat)) (i : Nat) : Value := match ds[i]? with
  | some (some d) => a.tmps.getD d undef
  | _ => undef
theorem put_same (a : Act) (d : Nat) : a.put (some d) (a.tmps.getD d undef) = a := by
  cases a with
  | mk t ds =>
    simp only [Act.put]
    congr 1
    apply Array.ext
    · simp
    · intro i h1 h2
      by_cases hi : d = i
      · subst hi; simp [Array.getD, h2]
      · exact Array.getElem_setIfInBounds_ne h2 hi
theorem frs_same (a : Act) : ∀ (ds : List (Option Nat)) (u : Nat → Value) (k : Nat), (∀ i d, ds[i]? = some (some d) → u (k + i) = a.tmps.getD d undef) → frs a ds u k = a
  | [], u, k, _ => rfl
  | none :: ds, u, k, h => frs_same a ds u (k + 1) fun i d e => by rw [← h (i + 1) d (by simpa using e)]; congr 1; omega
  | some d :: ds, u, k, h => by
    have h0 : u k = a.tmps.getD d undef := by simpa using h 0 d rfl
    rw [frs, h0, put_same]
    exact frs_same a ds u (k + 1) fun i d e => by rw [← h (i + 1) d (by simpa using e)]; congr 1; omega
theorem frs_start (a : Act) (ds : List (Option Nat)) : a = frs a ds (slot0 a ds) 0 :=
  (frs_same a ds _ 0 fun i d e => by simp [slot0, e]).symm
theorem wp_region_tb {P : Program} {ops : Array Oper} {Q : Exit → Act → World → Prop} {id : Nat} {a : Act} {w : World} {R : Type} (ds : List (Option Nat)) (fr : (Nat → Value) → Act) (hfr : ∀ u, frs a ds u 0 = fr u) (E : R → Nat → Value) (W : (Nat → Bool) → R → World → Prop)
    (hm : P.follows .mixedOrders = true) (he : elder ops = true) (ρ0 : R) (h0 : W (fun _ => false) ρ0 { w with drawn := w.drawn + 1 })
    (hstep : ∀ i, i < ops.size → ∀ L ρ u w, L i = false → (before ops i).all L = true → (∀ j, L j = true → (before ops j).all L = true) → (∀ j, L j = true → u j = E ρ j) → (∀ j, L j = false → u j = slot0 a ds j) → W L ρ w →
      wpOp P ops Q i (fun a' w' => ∃ ρ', a' = fr (put u i (E ρ' i)) ∧ (∀ j, L j = true → E ρ' j = E ρ j) ∧ W (upd L i) ρ' w') (fr u) w)
    (hdone : ∀ L ρ u w, (∀ i, i < ops.size → L i = true) → (∀ i, i < ops.size → u i = E ρ i) → W L ρ w → Q .normal (fr u) w) : (Code.region id ops true).wp P Q a w := by
  refine wp_region_inv' (fun L a' w => ∃ ρ u, a' = fr u ∧ (∀ j, L j = true → (before ops j).all L = true) ∧ (∀ j, L j = true → u j = E ρ j) ∧ (∀ j, L j = false → u j = slot0 a ds j) ∧ W L ρ w) hm he ⟨ρ0, slot0 a ds, (frs_start a ds).trans (hfr _), (fun _ h => by cases h), (fun _ h => by cases h), fun _ _ => rfl, h0⟩ ?_ ?_
  · rintro i hi L a' w hl hp ⟨ρ, u, rfl, hc, hu, hn, hW⟩
    refine wpOp_mono (fun a' w' h => ?_) (hstep i hi L ρ u w hl hp hc hu hn hW)
    obtain ⟨ρ', rfl, hE, hW'⟩ := h
    refine ⟨ρ', _, rfl, fun j hj => ?_, fun j hj => ?_, fun j hj => ?_, hW'⟩
    · rcases upd_cases hj with h | rfl
      · exact List.all_eq_true.2 fun e he => upd_of (List.all_eq_true.1 (hc j h) e he)
      · exact List.all_eq_true.2 fun e he => upd_of (List.all_eq_true.1 hp e he)
    · by_cases hji : j = i
      · subst hji; simp [put]
      · rw [upd_ne hji] at hj; simp only [put, if_neg hji]; rw [hu j hj, hE j hj]
    · by_cases hji : j = i
      · subst hji; rw [upd_self] at hj; cases hj
      · rw [upd_ne hji] at hj; simp only [put, if_neg hji]; exact hn j hj
  · rintro L a' w hall ⟨ρ, u, rfl, _, hu, _, hW⟩
    exact hdone L ρ u w hall (fun i hi => hu i (hall i hi)) hW
end Go.Proofs.YtbdacplndmnkhaaGreatDoor
