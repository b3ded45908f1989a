/- Steps of an hour: the plain mathematics, buffers of the call's own. -/
import Derived.Test.YtijhadafmhbceaaCa
import Derived.Test.YtijhadafmhbceaaHo
import Derived.Test.YtijhadafmhbceaaMkB
import Derived.Deep.RegionHeld3
namespace Go.Proofs.Ytijhadafmhbceaa
set_option linter.unusedVariables false
set_option linter.unusedSimpArgs false
open Go.RowKit
/-- no flow is greater than its pipe's limit -/
def limF : List Int → List Pp → Bool
  | x :: xs, p :: ps => !(decide (p.lim < absI x)) && limF xs ps
  | _, _ => true
theorem limF_step {fl : List Int} {ps : List Pp} {k : Nat} {x : Int} {p : Pp} (hx : fl[k]? = some x) (hp : ps[k]? = some p) : limF (fl.drop k) (ps.drop k) = (!(decide (p.lim < absI x)) && limF (fl.drop (k + 1)) (ps.drop (k + 1))) := by
  rw [drop_consI hx, drop_consI hp, limF]
theorem limF_end {fl : List Int} {ps : List Pp} {k : Nat} (h : ¬ k < ps.length) : limF (fl.drop k) (ps.drop k) = true := by
  rw [drop_endI h]
  cases fl.drop k <;> rfl
theorem limF_end' {fl : List Int} {ps : List Pp} {k : Nat} (h : ¬ k < fl.length) : limF (fl.drop k) (ps.drop k) = true := by
  rw [drop_endI h]; simp [limF]
/-- buffers, and whether the hour was possible -/
structure Bfs where
  lo : List Int
  hi : List Int
  nw : List Int
noncomputable def stR (N : Net) (ll lh ln fl su : List Int) : Bfs × Bool :=
  if limF fl N.pipes = false then (⟨[], [], []⟩, false) else (⟨ll, lh, nextL N ln su fl⟩, bufB N.nodes.length ll lh (nextL N ln su fl))
theorem stR_no {N : Net} {ll lh ln fl su : List Int} (h : limF fl N.pipes = false) : stR N ll lh ln fl su = (⟨[], [], []⟩, false) := by simp [stR, h]
theorem stR_yes {N : Net} {ll lh ln fl su : List Int} (h : limF fl N.pipes = true) : stR N ll lh ln fl su = (⟨ll, lh, nextL N ln su fl⟩, bufB N.nodes.length ll lh (nextL N ln su fl)) := by simp [stR, h]
/-- three lists of numbers of the call's own, apart from each other -/
structure BufW (base : Nat) (w : World) (A1 A2 A3 : Option Addr) (l1 l2 l3 : List Int) : Prop where
  r1 : Wr base w A1 l1.length (l1.map iV)
  r2 : Wr base w A2 l2.length (l2.map iV)
  r3 : Wr base w A3 l3.length (l3.map iV)
  d12 : ∀ k, onA A1 k → ¬ onA A2 k
  d13 : ∀ k, onA A1 k → ¬ onA A3 k
  d23 : ∀ k, onA A2 k → ¬ onA A3 k
theorem BufW.below {base : Nat} {w w' : World} {A1 A2 A3 : Option Addr} {l1 l2 l3 : List Int} (h : BufW base w A1 A2 A3 l1 l2 l3) (hb : Below w.heap.size w w') : BufW base w' A1 A2 A3 l1 l2 l3 :=
  ⟨h.r1.below hb, h.r2.below hb, h.r3.below hb, h.d12, h.d13, h.d23⟩
theorem BufW.lower {base base' : Nat} {w : World} {A1 A2 A3 : Option Addr} {l1 l2 l3 : List Int} (h : BufW base w A1 A2 A3 l1 l2 l3) (hb : base' ≤ base) : BufW base' w A1 A2 A3 l1 l2 l3 :=
  ⟨h.r1.lower hb, h.r2.lower hb, h.r3.lower hb, h.d12, h.d13, h.d23⟩
theorem BufW.nil (base : Nat) (w : World) : BufW base w none none none [] [] [] :=
  ⟨Wr.nil base w, Wr.nil base w, Wr.nil base w, fun k h => by simp [onA_none] at h, fun k h => by simp [onA_none] at h, fun k h => by simp [onA_none] at h⟩
theorem BufW.at_ {base : Nat} {w : World} {A1 A2 A3 : Option Addr} {l1 l2 l3 : List Int} (h : BufW base w A1 A2 A3 l1 l2 l3) (s1 : l1.length ≤ 1048576) (s2 : l2.length ≤ 1048576) (s3 : l3.length ≤ 1048576) : BufAt w A1 A2 A3 l1 l2 l3 := by
  constructor <;> first | exact h.r1.rd | exact h.r2.rd | exact h.r3.rd | assumption
/-- what a call that makes buffers hands back -/
def MadeB (w : World) (x : Bfs) (ok : Bool) (e : Ending) (w' : World) : Prop :=
  ∃ A1 A2 A3 c1 c2 c3, e = .returned (.tuple #[.agg #[.slice A1 x.lo.length c1, .slice A2 x.hi.length c2, .slice A3 x.nw.length c3], .bool ok]) ∧ BufW w.heap.size w' A1 A2 A3 x.lo x.hi x.nw ∧ Below w.heap.size w w'
theorem onA_apart {base : Nat} {w w1 : World} {A B : Option Addr} {N M : Nat} {xs ys : List Value} (h : Wr base w A N xs) (h' : Wr w1.heap.size w1 B M ys) : True := trivial
theorem Wr.apart {base : Nat} {w w1 w2 : World} {A B : Option Addr} {N M : Nat} {xs ys : List Value} (h : Wr base w A N xs) (h' : Wr w1.heap.size w2 B M ys) (hs : w.heap.size ≤ w1.heap.size) : ∀ k, onA A k → ¬ onA B k := fun k h1 h2 => by
  have := h.hi k h1
  have := h'.lo k h2
  omega
end Go.Proofs.Ytijhadafmhbceaa
