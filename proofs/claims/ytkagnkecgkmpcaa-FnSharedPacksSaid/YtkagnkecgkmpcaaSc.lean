/- Sets of nodes: membership, order, and the limits between a set and the rest. -/
import Derived.Test.YtkagnkecgkmpcaaCt1
import Derived.Test.YtkagnkecgkmpcaaSu
namespace Go.Proofs.Ytkagnkecgkmpcaa
set_option linter.unusedVariables false
set_option linter.unusedSimpArgs false
open Go.RowKit
def hasB (x : Int) : List Int → Bool
  | [] => false
  | y :: l => (y == x) || hasB x l
def idxF (x : Int) : List Int → Nat → Int
  | [], _ => -1
  | y :: l, k => if x == y then (k : Int) else idxF x l (k + 1)
theorem idxF_bd (x : Int) : ∀ (l : List Int) (k : Nat), -1 ≤ idxF x l k ∧ idxF x l k ≤ k + l.length
  | [], k => by simp [idxF]
  | y :: l, k => by
    have := idxF_bd x l (k + 1)
    simp only [idxF, List.length_cons]
    split <;> omega
theorem idxF_has (x : Int) : ∀ (l : List Int) (k : Nat), decide (0 ≤ idxF x l k) = true ↔ hasB x l = true
  | [], k => by simp [idxF, hasB]
  | y :: l, k => by
    have := idxF_has x l (k + 1)
    by_cases h : x = y
    · simp [idxF, hasB, h]
    · have h1 : (x == y) = false := by simpa using h
      have h2 : (y == x) = false := by simpa using fun e : y = x => h e.symm
      simp only [idxF, hasB, h1, h2, Bool.false_or]; exact this
set_option maxRecDepth 100000 in
set_option maxHeartbeats 1000000 in
theorem slices_IndexI (A : Option Addr) (c : Nat) (l : List Int) (x : Int) (w : World) (h : Rd w A (l.map iV)) (hl : l.length ≤ 1048576) :
    Calls Try.prog 51 #[.slice A l.length c, .int .i64 x] w fun e w' => e = .returned (.int .i64 (idxF x l 0)) ∧ w = w' := by
  have H := Lib.hid h
  clear h
  go_enter Try.func51, Try.ntmps51
  go_wp2
  go_loop [8] (fun v => ∃ (k : Nat), k ≤ l.length ∧ v = .int .i64 k ∧ idxF x (l.drop k) k = idxF x l 0) (fun v => l.length - (intOf v).toNat)
  case atStart => exact ⟨0, by omega, rfl, by simp⟩
  case round =>
    obtain ⟨k, hk, rfl, hF⟩ := hrel
    have HF := Lib.hid hF
    clear hF
    by_cases hlt : k < l.length
    · obtain ⟨y, hy⟩ := get_some hlt
      obtain ⟨b, off, rfl, hb, hat⟩ := H.out.opened (k := k) (by simpa using hlt)
      have t0 := ints_at hat hy
      have HD := Lib.hid (drop_consI hy)
      have g1 : (k : Int) < l.length := by omega
      clear hy hat
      cases he : (x == y)
      · have HE := Lib.hid he
        go_wp2
        go_round
        case rel =>
          refine ⟨k + 1, by omega, by go_num, ?_⟩
          rw [← HF.out, HD.out, idxF, HE.out]; rfl
        case measure => simp [intOf]; omega
      · have HE := Lib.hid he
        go_wp2
        go_ret
        refine ⟨ri ?_, rfl⟩
        rw [← HF.out, HD.out, idxF, HE.out]; rfl
    · go_wp2
      go_ret
      refine ⟨ri ?_, rfl⟩
      rw [← HF.out, drop_endI hlt, idxF]
def Inc (l : List Int) : Prop := ∀ (i : Nat) (x y : Int), l[i]? = some x → l[i + 1]? = some y → x < y
open Classical in
noncomputable def incB (l : List Int) : Bool := decide (Inc l)
noncomputable def nodesC (N : Net) (fl : List Int) : Int := if netB N = false then 1 else if allB 0 ((N.nodes.length : Int) - 1) fl = false then 2 else 0
end Go.Proofs.Ytkagnkecgkmpcaa
