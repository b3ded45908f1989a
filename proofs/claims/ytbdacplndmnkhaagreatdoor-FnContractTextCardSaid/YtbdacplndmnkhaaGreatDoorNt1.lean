/- Names, nodes, pipes: what their checks compute. -/
import Derived.Test.YtbdacplndmnkhaaGreatDoorRows
import Derived.Test.YtbdacplndmnkhaaGreatDoorDat
import Derived.Test.YtbdacplndmnkhaaGreatDoorAQ
import Derived.WalkKit
namespace Go.Proofs.YtbdacplndmnkhaaGreatDoor
set_option linter.unusedVariables false
set_option linter.unusedSimpArgs false
open Go.RowKit

def inB (n lo hi : Int) : Bool := decide (lo ≤ n) && decide (n ≤ hi)
theorem inB_iff {n lo hi : Int} : inB n lo hi = true ↔ lo ≤ n ∧ n ≤ hi := by simp [inB]
theorem inB_f {n lo hi : Int} : inB n lo hi = false ↔ ¬ (lo ≤ n ∧ n ≤ hi) := by rw [← Bool.not_eq_true, inB_iff]

set_option maxHeartbeats 400000 in
theorem within_any (n lo hi : Int) (w : World) :
    Calls Tryz.prog 50 #[.int .i64 n, .int .i64 lo, .int .i64 hi] w fun e w' => e = .returned (.bool (inB n lo hi)) ∧ w = w' := by
  go_enter Tryz.func50, Tryz.ntmps50
  go_wp2
  all_goals go_ret
  all_goals simp [inB]
  all_goals omega
set_option maxHeartbeats 400000 in
theorem l01In_any (n lo hi : Int) (w : World) :
    Calls Tryz.prog 53 #[.int .i64 n, .int .i64 lo, .int .i64 hi] w fun e w' => e = .returned (.bool (inB n lo hi)) ∧ w = w' := by
  go_enter Tryz.func53, Tryz.ntmps53
  go_wp2
  all_goals go_ret
  all_goals simp [inB]
  all_goals omega

def ChOk (c : Nat) : Prop := (97 ≤ (c : Int) ∧ (c : Int) ≤ 122) ∨ (48 ≤ (c : Int) ∧ (c : Int) ≤ 57)
def NameOk (s : ByteArray) : Prop := 1 ≤ s.size ∧ s.size ≤ 8 ∧ ∀ i (h : i < s.size), ChOk s[i].toNat
open Classical in
noncomputable def nameB (s : ByteArray) : Bool := decide (NameOk s)
theorem nameB_t {s : ByteArray} (h : NameOk s) : nameB s = true := by simp [nameB, h]
theorem nameB_f {s : ByteArray} (h : ¬ NameOk s) : nameB s = false := by simp [nameB, h]

set_option maxRecDepth 100000 in
set_option maxHeartbeats 1000000 in
theorem impl_isName (s : ByteArray) (w : World) (hs : s.size ≤ 9223372036854775807) :
    Calls Tryz.prog 89 #[.string s] w fun e w' => e = .returned (.bool (nameB s)) ∧ w = w' := by
  by_cases h1 : s.size < 1
  · go_enter Tryz.func89, Tryz.ntmps89
    go_wp2
    go_ret
    exact ⟨rbf (nameB_f (fun h => by have := h.1; omega)), rfl⟩
  by_cases h8 : 8 < s.size
  · go_enter Tryz.func89, Tryz.ntmps89
    go_wp2
    go_ret
    exact ⟨rbf (nameB_f (fun h => by have := h.2.1; omega)), rfl⟩
  have b1 : decide ((s.size : Int) < 1) = false := by simp; omega
  have b8 : decide (8 < (s.size : Int)) = false := by simp; omega
  go_enter Tryz.func89, Tryz.ntmps89
  go_wp2
  go_loop [3] (fun v => ∃ k : Nat, k ≤ s.size ∧ v = .int .i64 k ∧ ∀ i (h : i < s.size), i < k → ChOk s[i].toNat) (fun v => s.size - (intOf v).toNat)
  case atStart => exact ⟨0, by omega, rfl, fun i h h0 => by omega⟩
  case round =>
    obtain ⟨k, hk, rfl, hall⟩ := hrel
    have HL := Lib.hid hall
    clear hall
    by_cases hlt : k < s.size
    · by_cases hc : ChOk s[k].toNat
      · have HC := Lib.hid hc
        unfold ChOk at hc
        go_wp2
        all_goals first | (exfalso; simp at *; omega) | skip
        all_goals
          go_round
          case rel => exact ⟨k + 1, by omega, by go_num, fun i h hi => by
            by_cases e : i = k
            · subst e; exact HC.out
            · exact HL.out i h (by omega)⟩
          case measure => simp [intOf]; omega
      · have HC := Lib.hid hc
        unfold ChOk at hc
        go_wp2
        all_goals first | (exfalso; simp at *; omega) | skip
        all_goals go_ret
        all_goals exact ⟨rbf (nameB_f (fun h => HC.out (h.2.2 k hlt))), rfl⟩
    · go_wp2
      go_ret
      exact ⟨rbt (nameB_t ⟨by omega, by omega, fun i h => HL.out i h (by omega)⟩), rfl⟩
set_option maxRecDepth 100000 in
set_option maxHeartbeats 1000000 in
theorem spec_l02Name (s : ByteArray) (w : World) (hs : s.size ≤ 9223372036854775807) :
    Calls Tryz.prog 93 #[.string s] w fun e w' => e = .returned (.bool (nameB s)) ∧ w = w' := by
  go_enter Tryz.func93, Tryz.ntmps93
  go_wp2
  go_loop [3] (fun v => ∃ k : Nat, k ≤ s.size ∧ v = .int .i64 k ∧ ∀ i (h : i < s.size), i < k → ChOk s[i].toNat) (fun v => s.size - (intOf v).toNat)
  case atStart => exact ⟨0, by omega, rfl, fun i h h0 => by omega⟩
  case round =>
    obtain ⟨k, hk, rfl, hall⟩ := hrel
    have HL := Lib.hid hall
    clear hall
    by_cases hlt : k < s.size
    · by_cases hc : ChOk s[k].toNat
      · have HC := Lib.hid hc
        unfold ChOk at hc
        go_wp2
        all_goals
          go_round
          case rel => exact ⟨k + 1, by omega, by go_num, fun i h hi => by
            by_cases e : i = k
            · subst e; exact HC.out
            · exact HL.out i h (by omega)⟩
          case measure => simp [intOf]; omega
      · have HC := Lib.hid hc
        unfold ChOk at hc
        go_wp2
        all_goals go_ret
        all_goals exact ⟨rbf (nameB_f (fun h => HC.out (h.2.2 k hlt))), rfl⟩
    · by_cases h1 : s.size < 1
      · go_wp2
        go_ret
        exact ⟨rbf (nameB_f (fun h => by have := h.1; omega)), rfl⟩
      by_cases h8 : 8 < s.size
      · have b8 : decide ((s.size : Int) ≤ 8) = false := by simp; omega
        go_wp2
        go_ret
        exact ⟨rbf (nameB_f (fun h => by have := h.2.1; omega)), rfl⟩
      · have b8 : decide ((s.size : Int) ≤ 8) = true := by simp; omega
        go_wp2
        go_ret
        exact ⟨rbt (nameB_t ⟨by omega, by omega, fun i h => HL.out i h (by omega)⟩), rfl⟩

noncomputable def nodeB (x : Nd) : Bool := nameB x.name && (decide (0 ≤ x.lo) && (decide (x.lo ≤ x.hi) && decide (x.hi ≤ 100000000)))
set_option maxRecDepth 100000 in
set_option maxHeartbeats 1000000 in
theorem impl_IsNode (x : Nd) (w : World) (hs : x.name.size ≤ 9223372036854775807) :
    Calls Tryz.prog 68 #[x.val] w fun e w' => e = .returned (.bool (nodeB x)) ∧ Below w.heap.size w w' := by
  (go_enter Tryz.func68, Tryz.ntmps68; go_wp2_with (first | (go_at_call 89; ((with_reducible refine (impl_isName _ _ (by omega)).mono ?_)); rintro e wn ⟨rfl, rfl⟩)))
  all_goals go_ret
  all_goals refine ⟨rb ?_, by (repeat' (first | (with_reducible exact Below.refl _ _) | (with_reducible assumption) | (with_reducible refine Below.alloc ?_ ?_ _) | (with_reducible refine Below.drew ?_) | (with_reducible refine Below.drewN' ?_ _) | (with_reducible refine Below.setCell ?_ ?_ _) | (refine Below.via ?_ (by with_reducible assumption) ?_) | (with_reducible refine Below.via ?_ (Wd.h _) ?_) | go_size))⟩
  all_goals simp_all [nodeB]
  all_goals omega
set_option maxRecDepth 100000 in
set_option maxHeartbeats 1000000 in
theorem spec_IsNode (x : Nd) (w : World) (hs : x.name.size ≤ 9223372036854775807) :
    Calls Tryz.prog 74 #[x.val] w fun e w' => e = .returned (.bool (nodeB x)) ∧ Below w.heap.size w w' := by
  (go_enter Tryz.func74, Tryz.ntmps74; go_wp2_with (first | (go_at_call 93; ((with_reducible refine (spec_l02Name _ _ (by omega)).mono ?_)); rintro e wn ⟨rfl, rfl⟩)))
  all_goals go_ret
  all_goals refine ⟨rb ?_, by (repeat' (first | (with_reducible exact Below.refl _ _) | (with_reducible assumption) | (with_reducible refine Below.alloc ?_ ?_ _) | (with_reducible refine Below.drew ?_) | (with_reducible refine Below.drewN' ?_ _) | (with_reducible refine Below.setCell ?_ ?_ _) | (refine Below.via ?_ (by with_reducible assumption) ?_) | (with_reducible refine Below.via ?_ (Wd.h _) ?_) | go_size))⟩
  all_goals simp_all [nodeB]
  all_goals omega

def pipeB (x : Pp) (n : Int) : Bool := inB x.f 0 (n - 1) && inB x.t 0 (n - 1) && (x.f != x.t) && inB x.k 1 1000 && inB x.vol 0 1000000 && inB x.lim 1 30000
set_option maxRecDepth 100000 in
set_option maxHeartbeats 1000000 in
theorem spec_l02Pipe (x : Pp) (n : Int) (w : World) (h0 : 0 ≤ n) (h1 : n ≤ 1048576) :
    Calls Tryz.prog 75 #[x.val, .int .i64 n] w fun e w' => e = .returned (.bool (pipeB x n)) ∧ Below w.heap.size w w' := by
  (go_enter Tryz.func75, Tryz.ntmps75; go_wp2_with (first | (go_at_call 53; ((with_reducible refine (l01In_any _ _ _ _).mono ?_)); rintro e wn ⟨rfl, rfl⟩) | (go_at_call 53; ((with_reducible refine (l01In_any _ _ _ _).mono ?_)); rintro e wn ⟨rfl, rfl⟩)))
  all_goals go_ret
  all_goals refine ⟨rb ?_, by (repeat' (first | (with_reducible exact Below.refl _ _) | (with_reducible assumption) | (with_reducible refine Below.alloc ?_ ?_ _) | (with_reducible refine Below.drew ?_) | (with_reducible refine Below.drewN' ?_ _) | (with_reducible refine Below.setCell ?_ ?_ _) | (refine Below.via ?_ (by with_reducible assumption) ?_) | (with_reducible refine Below.via ?_ (Wd.h _) ?_) | go_size))⟩
  all_goals simp_all [pipeB]

/-- a network as a value -/
abbrev netV (A B : Option Addr) (n c m d : Nat) : Value := .agg #[.slice A n c, .slice B m d]
set_option maxRecDepth 100000 in
set_option maxHeartbeats 1000000 in
theorem impl_isNodeOf (A B : Option Addr) (n c m d : Nat) (x : Int) (w : World) (hn : n ≤ 1048576) :
    Calls Tryz.prog 70 #[netV A B n c m d, .int .i64 x] w fun e w' => e = .returned (.bool (inB x 0 ((n : Int) - 1))) ∧ Below w.heap.size w w' := by
  (go_enter Tryz.func70, Tryz.ntmps70; go_wp2_with (first | (go_at_call 50; ((with_reducible refine (within_any _ _ _ _).mono ?_)); rintro e wn ⟨rfl, rfl⟩) | (go_at_call 50; ((with_reducible refine (within_any _ _ _ _).mono ?_)); rintro e wn ⟨rfl, rfl⟩)))
  go_ret
  exact ⟨rfl, by (repeat' (first | (with_reducible exact Below.refl _ _) | (with_reducible assumption) | (with_reducible refine Below.alloc ?_ ?_ _) | (with_reducible refine Below.drew ?_) | (with_reducible refine Below.drewN' ?_ _) | (with_reducible refine Below.setCell ?_ ?_ _) | (refine Below.via ?_ (by with_reducible assumption) ?_) | (with_reducible refine Below.via ?_ (Wd.h _) ?_) | go_size))⟩
set_option maxRecDepth 100000 in
set_option maxHeartbeats 1000000 in
theorem spec_l02Node (A B : Option Addr) (n c m d : Nat) (x : Int) (w : World) (hn : n ≤ 1048576) :
    Calls Tryz.prog 88 #[netV A B n c m d, .int .i64 x] w fun e w' => e = .returned (.bool (inB x 0 ((n : Int) - 1))) ∧ Below w.heap.size w w' := by
  (go_enter Tryz.func88, Tryz.ntmps88; go_wp2_with (first | (go_at_call 53; ((with_reducible refine (l01In_any _ _ _ _).mono ?_)); rintro e wn ⟨rfl, rfl⟩) | (go_at_call 53; ((with_reducible refine (l01In_any _ _ _ _).mono ?_)); rintro e wn ⟨rfl, rfl⟩)))
  go_ret
  exact ⟨rfl, by (repeat' (first | (with_reducible exact Below.refl _ _) | (with_reducible assumption) | (with_reducible refine Below.alloc ?_ ?_ _) | (with_reducible refine Below.drew ?_) | (with_reducible refine Below.drewN' ?_ _) | (with_reducible refine Below.setCell ?_ ?_ _) | (refine Below.via ?_ (by with_reducible assumption) ?_) | (with_reducible refine Below.via ?_ (Wd.h _) ?_) | go_size))⟩
end Go.Proofs.YtbdacplndmnkhaaGreatDoor
