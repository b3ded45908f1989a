/- Nominations: their checks. -/
import Derived.Test.YtijhadafmhbceaaRt
namespace Go.Proofs.Ytijhadafmhbceaa
set_option linter.unusedVariables false
set_option linter.unusedSimpArgs false
open Go.RowKit
theorem l01In_b {n lo hi : Int} {b : Bool} (h : inB n lo hi = b) (w : World) :
    Calls Try.prog 93 #[.int .i64 n, .int .i64 lo, .int .i64 hi] w fun e w' => e = .returned (.bool b) ∧ w = w' := h ▸ l01In_any n lo hi w
def CtrsOk (l : List Ctr) : Prop := ∃ n : Int, ∀ x ∈ l, ctrB x n = true
def nomB (lb : List Ctr) (x : Nom) : Bool :=
  inB x.con 0 ((lb.length : Int) - 1) && (match lb[x.con.toNat]? with
    | some c => inB x.hr c.fr c.to && inB x.sent (-48) (x.hr - 2) && inB x.am 0 c.am
    | none => false)
theorem nomB_out {lb : List Ctr} {x : Nom} (h : inB x.con 0 ((lb.length : Int) - 1) = false) : nomB lb x = false := by simp [nomB, h]
theorem nomB_in {lb : List Ctr} {con hr sent am : Int} {k : Nat} {c : Ctr} (hk : con = k) (hlt : k < lb.length) (h : lb[k]? = some c) : nomB lb ⟨con, hr, sent, am⟩ = (inB hr c.fr c.to && inB sent (-48) (hr - 2) && inB am 0 c.am) := by
  subst hk
  have : inB (k : Int) 0 ((lb.length : Int) - 1) = true := by simp [inB]; omega
  simp [nomB, this, h]
theorem ctrsOk_of {N : Net} {l : List Ctr} (h : bookC N l = 0) : CtrsOk l := ⟨_, (book_of h).2.2⟩
theorem book_zero {N : Net} {l : List Ctr} : bookC N l = 0 ↔ (netB N && bookB l N.nodes.length) = true := by
  unfold bookC
  cases h1 : netB N <;> cases h2 : bookB l N.nodes.length <;> simp
end Go.Proofs.Ytijhadafmhbceaa
