/- Sums and checks of lists of numbers. -/
import Derived.Test.YtijhadafmhbceaaNt1
import Derived.Test.YtijhadafmhbceaaLI
import Derived.Test.YtijhadafmhbceaaAp
namespace Go.Proofs.Ytijhadafmhbceaa
set_option linter.unusedVariables false
set_option linter.unusedSimpArgs false
open Go.RowKit

theorem drop_consI {α : Type} {l : List α} {k : Nat} {x : α} (h : l[k]? = some x) : l.drop k = x :: l.drop (k + 1) := by
  obtain ⟨hk, rfl⟩ := List.getElem?_eq_some_iff.1 h
  exact List.drop_eq_getElem_cons hk
theorem drop_endI {α : Type} {l : List α} {k : Nat} (h : ¬ k < l.length) : l.drop k = [] := List.drop_eq_nil_of_le (by omega)
def sumF : List Int → Int
  | [] => 0
  | x :: l => x + sumF l
def Sml (l : List Int) : Prop := ∀ x ∈ l, -1000000000000 ≤ x ∧ x ≤ 1000000000000
def allB (lo hi : Int) : List Int → Bool
  | [] => true
  | x :: l => inB x lo hi && allB lo hi l
theorem allB_iff {lo hi : Int} : ∀ {l : List Int}, allB lo hi l = true ↔ ∀ x ∈ l, lo ≤ x ∧ x ≤ hi
  | [] => by simp [allB]
  | x :: l => by simp [allB, inB_iff, allB_iff (l := l)]
set_option maxRecDepth 100000 in
set_option maxHeartbeats 1000000 in
theorem impl_allWithin (A : Option Addr) (c : Nat) (l : List Int) (lo hi : Int) (w : World) (h : Rd w A (l.map iV)) (hl : l.length ≤ 1048576) :
    Calls Try.prog 78 #[.slice A l.length c, .int .i64 lo, .int .i64 hi] w fun e w' => e = .returned (.bool (allB lo hi l)) ∧ w = w' := by
  have H := Lib.hid h
  clear h
  go_enter Try.func78, Try.ntmps78
  go_wp2
  go_loop [11] (fun v => ∃ (k : Nat), k ≤ l.length ∧ v = .int .i64 k ∧ allB lo hi (l.drop k) = allB lo hi l) (fun v => l.length - (intOf v).toNat)
  case atStart => exact ⟨0, by omega, rfl, by simp⟩
  case round =>
    obtain ⟨k, hk, rfl, hF⟩ := hrel
    have HF := Lib.hid hF
    clear hF
    by_cases hlt : k < l.length
    · obtain ⟨x, hx⟩ := get_some hlt
      obtain ⟨b, off, rfl, hb, hat⟩ := H.out.opened (k := k) (by simpa using hlt)
      have t0 := ints_at hat hx
      have HD := Lib.hid (drop_consI hx)
      have g1 : (k : Int) < l.length := by omega
      clear hx hat
      cases hin : inB x lo hi
      · go_wp2_with (first | (go_at_call 74; ((with_reducible refine (within_any _ _ _ _).mono ?_)); rintro e wn ⟨rfl, rfl⟩) | (go_at_call 74; ((with_reducible refine (within_any _ _ _ _).mono ?_)); rintro e wn ⟨rfl, rfl⟩))
        go_ret
        refine ⟨rbf ?_, rfl⟩
        rw [← HF.out, HD.out, allB, hin, Bool.false_and]
      · go_wp2_with (first | (go_at_call 74; ((with_reducible refine (within_any _ _ _ _).mono ?_)); rintro e wn ⟨rfl, rfl⟩) | (go_at_call 74; ((with_reducible refine (within_any _ _ _ _).mono ?_)); rintro e wn ⟨rfl, rfl⟩))
        go_round
        case rel =>
          refine ⟨k + 1, by omega, by go_num, ?_⟩
          rw [← HF.out, HD.out, allB, hin, Bool.true_and]
        case measure => simp [intOf]; omega
    · go_wp2
      go_ret
      refine ⟨rbt ?_, rfl⟩
      rw [← HF.out, drop_endI hlt, allB]
end Go.Proofs.Ytijhadafmhbceaa
