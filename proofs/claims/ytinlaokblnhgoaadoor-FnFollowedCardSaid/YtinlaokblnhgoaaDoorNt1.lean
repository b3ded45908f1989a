/- Names, nodes, pipes: what their checks compute. -/
import Derived.Test.YtinlaokblnhgoaaDoorRows
import Derived.Test.YtinlaokblnhgoaaDoorDat
import Derived.Test.YtinlaokblnhgoaaDoorAQ
import Derived.WalkKit
namespace Go.Proofs.YtinlaokblnhgoaaDoor
set_option linter.unusedVariables false
set_option linter.unusedSimpArgs false
open Go.RowKit

def inB (n lo hi : Int) : Bool := decide (lo ≤ n) && decide (n ≤ hi)
theorem inB_iff {n lo hi : Int} : inB n lo hi = true ↔ lo ≤ n ∧ n ≤ hi := by simp [inB]
theorem inB_f {n lo hi : Int} : inB n lo hi = false ↔ ¬ (lo ≤ n ∧ n ≤ hi) := by rw [← Bool.not_eq_true, inB_iff]

set_option maxHeartbeats 400000 in
theorem within_any (n lo hi : Int) (w : World) :
    Calls Tryd.prog 30 #[.int .i64 n, .int .i64 lo, .int .i64 hi] w fun e w' => e = .returned (.bool (inB n lo hi)) ∧ w = w' := by
  go_enter Tryd.func30, Tryd.ntmps30
  go_wp2
  all_goals go_ret
  all_goals simp [inB]
  all_goals omega
set_option maxHeartbeats 400000 in
theorem l01In_any (n lo hi : Int) (w : World) :
    Calls Tryd.prog 31 #[.int .i64 n, .int .i64 lo, .int .i64 hi] w fun e w' => e = .returned (.bool (inB n lo hi)) ∧ w = w' := by
  go_enter Tryd.func31, Tryd.ntmps31
  go_wp2
  all_goals go_ret
  all_goals simp [inB]
  all_goals omega

def ChOk (c : Nat) : Prop := (97 ≤ (c : Int) ∧ (c : Int) ≤ 122) ∨ (48 ≤ (c : Int) ∧ (c : Int) ≤ 57)
def NameOk (s : ByteArray) : Prop := 1 ≤ s.size ∧ s.size ≤ 8 ∧ ∀ i (h : i < s.size), ChOk s[i].toNat
open Classical in
noncomputable def nameB (s : ByteArray) : Bool := decide (NameOk s)
theorem nameB_t {s : ByteArray} (h : NameOk s) : nameB s = true := by simp [nameB, h]
theorem nameB_f {s : ByteArray} (h : ¬ NameOk s) : nameB s = false := by simp [nameB, h]


noncomputable def nodeB (x : Nd) : Bool := nameB x.name && (decide (0 ≤ x.lo) && (decide (x.lo ≤ x.hi) && decide (x.hi ≤ 100000000)))

def pipeB (x : Pp) (n : Int) : Bool := inB x.f 0 (n - 1) && inB x.t 0 (n - 1) && (x.f != x.t) && inB x.k 1 1000 && inB x.vol 0 1000000 && inB x.lim 1 30000

/-- a network as a value -/
abbrev netV (A B : Option Addr) (n c m d : Nat) : Value := .agg #[.slice A n c, .slice B m d]
end Go.Proofs.YtinlaokblnhgoaaDoor
