/- impl.nodeIndex and its closure: the first node with a name. -/
import Derived.Test.YtbdacplndmnkhaaGreatDoorNt1
namespace Go.Proofs.YtbdacplndmnkhaaGreatDoor
set_option linter.unusedVariables false
set_option linter.unusedSimpArgs false
open Go.RowKit

theorem drop_cons {α : Type} {l : List α} {k : Nat} {x : α} (h : l[k]? = some x) : l.drop k = x :: l.drop (k + 1) := by
  obtain ⟨hk, rfl⟩ := List.getElem?_eq_some_iff.1 h
  exact List.drop_eq_getElem_cons hk
theorem drop_end {α : Type} {l : List α} {k : Nat} (h : ¬ k < l.length) : l.drop k = [] := List.drop_eq_nil_of_le (by omega)

def nIdxF (nm : ByteArray) : List Nd → Nat → Int
  | [], _ => -1
  | x :: l, k => if x.name.toList == nm.toList then (k : Int) else nIdxF nm l (k + 1)
theorem nIdxF_pos (nm : ByteArray) : ∀ (l : List Nd) (k : Nat), 0 ≤ nIdxF nm l k ↔ ∃ x ∈ l, x.name.toList = nm.toList
  | [], k => by simp [nIdxF]
  | x :: l, k => by
    have := nIdxF_pos nm l (k + 1)
    simp only [nIdxF]
    by_cases h : x.name.toList = nm.toList
    · simp [h]
    · have hb : (x.name.toList == nm.toList) = false := by simpa using h
      rw [hb]; simp [this, h]
theorem nIdxF_bd (nm : ByteArray) : ∀ (l : List Nd) (k : Nat), -1 ≤ nIdxF nm l k ∧ nIdxF nm l k < k + l.length ∨ nIdxF nm l k = -1
  | [], k => by simp [nIdxF]
  | x :: l, k => by
    have := nIdxF_bd nm l (k + 1)
    simp only [nIdxF, List.length_cons]
    split <;> omega

set_option maxRecDepth 100000 in
set_option maxHeartbeats 1000000 in
theorem impl_nodeIndex1 (x : Nd) (b : Nat) (nm : ByteArray) (w : World) (hc : w.cell? ⟨b, 0, none⟩ = some (.string nm)) :
    Calls Tryz.prog 91 #[x.val, .pointer (some ⟨b, 0, none⟩)] w fun e w' => e = .returned (.bool (x.name.toList == nm.toList)) ∧ Below w.heap.size w w' := by
  have hb := block_lt hc
  go_enter Tryz.func91, Tryz.ntmps91
  go_wp2
  go_ret
  exact ⟨rfl, by (repeat' (first | (with_reducible exact Below.refl _ _) | (with_reducible assumption) | (with_reducible refine Below.alloc ?_ ?_ _) | (with_reducible refine Below.drew ?_) | (with_reducible refine Below.drewN' ?_ _) | (with_reducible refine Below.setCell ?_ ?_ _) | (refine Below.via ?_ (by with_reducible assumption) ?_) | (with_reducible refine Below.via ?_ (Wd.h _) ?_) | go_size))⟩

set_option maxRecDepth 100000 in
set_option maxHeartbeats 1000000 in
theorem slices_IndexFuncNode (A : Option Addr) (c b : Nat) (l : List Nd) (nm : ByteArray) (w : World) (h : Rd w A (l.flatMap Nd.cells)) (hl : l.length ≤ 1048576) (hc : w.cell? ⟨b, 0, none⟩ = some (.string nm)) :
    Calls Tryz.prog 90 #[.slice A l.length c, .func (.func 91) #[] #[.pointer (some ⟨b, 0, none⟩)]] w fun e w' => e = .returned (.int .i64 (nIdxF nm l 0)) ∧ Below w.heap.size w w' := by
  have H := Lib.hid h
  have HC := Lib.hid hc
  have hb := block_lt hc
  clear h hc
  go_enter Tryz.func90, Tryz.ntmps90
  go_wp2
  go_loopw [8] (fun v wr => ∃ k : Nat, k ≤ l.length ∧ v = .int .i64 k ∧ nIdxF nm (l.drop k) k = nIdxF nm l 0 ∧ Below w.heap.size w wr) (fun v _ => l.length - (intOf v).toNat)
  case atStart => exact ⟨0, by omega, rfl, rfl, Below.refl _ _⟩
  case round =>
    obtain ⟨k, hk, rfl, hF, hbw⟩ := hrel
    have hbH := Lib.hid hbw
    have HF := Lib.hid hF
    clear hF
    by_cases hlt : k < l.length
    · obtain ⟨x, hx⟩ := get_some hlt
      have HD := Lib.hid (drop_cons hx)
      obtain ⟨b1, off, rfl, hb1, hat⟩ := H.out.opened (k := k) (by rw [flat_len Nd.len]; omega)
      have hat' := hat.below hbw hb1
      have t0 := hat'.elem0 Nd.len hx rfl
      have t1 := hat'.elem Nd.len hx 1 rfl
      have t2 := hat'.elem Nd.len hx 2 rfl
      have hcr : wr.cell? ⟨b, 0, none⟩ = some (.string nm) := (hbw.cell (p := ⟨b, 0, none⟩) hb).trans HC.out
      clear hx hat hat' hbw
      by_cases hnm : (x.name.toList == nm.toList) = true
      · go_wp2_with ((go_at_call 91; ((with_reducible refine (impl_nodeIndex1 x b nm _ hcr).mono ?_)); rintro e wn ⟨rfl, hbn⟩))
        go_ret
        refine ⟨ri ?_, Below.via hbH.out hbn hbH.out.size⟩
        rw [← HF.out, HD.out, nIdxF, hnm]; rfl
      · have hnm' : (x.name.toList == nm.toList) = false := by simpa using hnm
        clear hnm
        go_wp2_with ((go_at_call 91; ((with_reducible refine (impl_nodeIndex1 x b nm _ hcr).mono ?_)); rintro e wn ⟨rfl, hbn⟩))
        go_roundw
        case rel =>
          refine ⟨k + 1, by omega, by go_num, ?_, Below.via hbH.out hbn hbH.out.size⟩
          rw [← HF.out, HD.out, nIdxF, hnm']; rfl
        case measure => simp [intOf]; omega
    · clear hbw
      go_wp2
      go_ret
      refine ⟨ri ?_, hbH.out⟩
      rw [← HF.out, drop_end hlt, nIdxF]

set_option maxRecDepth 100000 in
set_option maxHeartbeats 1000000 in
theorem impl_nodeIndex (A B : Option Addr) (n c m d : Nat) (l : List Nd) (nm : ByteArray) (w : World) (hn : n = l.length) (h : Rd w A (l.flatMap Nd.cells)) (hl : l.length ≤ 1048576) :
    Calls Tryz.prog 69 #[netV A B n c m d, .string nm] w fun e w' => e = .returned (.int .i64 (nIdxF nm l 0)) ∧ Below w.heap.size w w' := by
  subst hn
  have hbd := nIdxF_bd nm l 0
  have H := Lib.hid h
  clear h
  go_enter Tryz.func69, Tryz.ntmps69
  go_wp2_with ((go_at_call 90; ((with_reducible refine (slices_IndexFuncNode _ _ _ _ nm _ ?hh hl ?hc).mono ?_)); rotate_left 2; rintro e wn ⟨rfl, hbn⟩))
  case hh => exact (H.out.below (((Below.refl w.heap.size w).alloc (Nat.le_refl _) _).alloc (by simp) _)).below (Below.refl _ _)
  case hc => simp
  go_ret
  exact ⟨rfl, by (repeat' (first | (with_reducible exact Below.refl _ _) | (with_reducible assumption) | (with_reducible refine Below.alloc ?_ ?_ _) | (with_reducible refine Below.drew ?_) | (with_reducible refine Below.drewN' ?_ _) | (with_reducible refine Below.setCell ?_ ?_ _) | (refine Below.via ?_ (by with_reducible assumption) ?_) | (with_reducible refine Below.via ?_ (Wd.h _) ?_) | go_size))⟩
end Go.Proofs.YtbdacplndmnkhaaGreatDoor
