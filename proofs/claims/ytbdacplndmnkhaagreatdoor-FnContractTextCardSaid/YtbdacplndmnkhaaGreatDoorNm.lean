/- Nominations: their checks. -/
import Derived.Test.YtbdacplndmnkhaaGreatDoorRt
namespace Go.Proofs.YtbdacplndmnkhaaGreatDoor
set_option linter.unusedVariables false
set_option linter.unusedSimpArgs false
open Go.RowKit
set_option maxRecDepth 100000 in
set_option maxHeartbeats 1000000 in
theorem impl_holdsIn (x : Ctr) (hr : Int) (w : World) :
    Calls Tryz.prog 32 #[x.val, .int .i64 hr] w fun e w' => e = .returned (.bool (inB hr x.fr x.to)) ∧ Below w.heap.size w w' := by
  (go_enter Tryz.func32, Tryz.ntmps32; go_wp2_with (first | (go_at_call 50; ((with_reducible refine (within_any _ _ _ _).mono ?_)); rintro e wn ⟨rfl, rfl⟩) | (go_at_call 50; ((with_reducible refine (within_any _ _ _ _).mono ?_)); rintro e wn ⟨rfl, rfl⟩)))
  go_ret
  exact ⟨rfl, by (repeat' (first | (with_reducible exact Below.refl _ _) | (with_reducible assumption) | (with_reducible refine Below.alloc ?_ ?_ _) | (with_reducible refine Below.drew ?_) | (with_reducible refine Below.drewN' ?_ _) | (with_reducible refine Below.setCell ?_ ?_ _) | (refine Below.via ?_ (by with_reducible assumption) ?_) | (with_reducible refine Below.via ?_ (Wd.h _) ?_) | go_size))⟩
set_option maxRecDepth 100000 in
set_option maxHeartbeats 1000000 in
theorem spec_l20Holds (x : Ctr) (hr : Int) (w : World) :
    Calls Tryz.prog 36 #[x.val, .int .i64 hr] w fun e w' => e = .returned (.bool (inB hr x.fr x.to)) ∧ Below w.heap.size w w' := by
  (go_enter Tryz.func36, Tryz.ntmps36; go_wp2_with (first | (go_at_call 53; ((with_reducible refine (l01In_any _ _ _ _).mono ?_)); rintro e wn ⟨rfl, rfl⟩) | (go_at_call 53; ((with_reducible refine (l01In_any _ _ _ _).mono ?_)); rintro e wn ⟨rfl, rfl⟩)))
  go_ret
  exact ⟨rfl, by (repeat' (first | (with_reducible exact Below.refl _ _) | (with_reducible assumption) | (with_reducible refine Below.alloc ?_ ?_ _) | (with_reducible refine Below.drew ?_) | (with_reducible refine Below.drewN' ?_ _) | (with_reducible refine Below.setCell ?_ ?_ _) | (refine Below.via ?_ (by with_reducible assumption) ?_) | (with_reducible refine Below.via ?_ (Wd.h _) ?_) | go_size))⟩
theorem l01In_b {n lo hi : Int} {b : Bool} (h : inB n lo hi = b) (w : World) :
    Calls Tryz.prog 53 #[.int .i64 n, .int .i64 lo, .int .i64 hi] w fun e w' => e = .returned (.bool b) ∧ w = w' := h ▸ l01In_any n lo hi w
def CtrsOk (l : List Ctr) : Prop := ∃ n : Int, ∀ x ∈ l, ctrB x n = true
def nomB (lb : List Ctr) (x : Nom) : Bool :=
  inB x.con 0 ((lb.length : Int) - 1) && (match lb[x.con.toNat]? with
    | some c => inB x.hr c.fr c.to && inB x.sent (-48) (x.hr - 2) && inB x.am 0 c.am
    | none => false)
theorem nomB_out {lb : List Ctr} {x : Nom} (h : inB x.con 0 ((lb.length : Int) - 1) = false) : nomB lb x = false := by simp [nomB, h]
theorem nomB_in {lb : List Ctr} {con hr sent am : Int} {k : Nat} {c : Ctr} (hk : con = k) (hlt : k < lb.length) (h : lb[k]? = some c) : nomB lb ⟨con, hr, sent, am⟩ = (inB hr c.fr c.to && inB sent (-48) (hr - 2) && inB am 0 c.am) := by
  subst hk
  have : inB (k : Int) 0 ((lb.length : Int) - 1) = true := by simp [inB]; omega
  simp [nomB, this, h]
theorem ctrsOk_of {N : Net} {l : List Ctr} (h : bookC N l = 0) : CtrsOk l := ⟨_, (book_of h).2.2⟩
theorem book_zero {N : Net} {l : List Ctr} : bookC N l = 0 ↔ (netB N && bookB l N.nodes.length) = true := by
  unfold bookC
  cases h1 : netB N <;> cases h2 : bookB l N.nodes.length <;> simp
end Go.Proofs.YtbdacplndmnkhaaGreatDoor
