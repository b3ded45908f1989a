/- SteadyHours: the plain part. -/
import Derived.Test.YtijhadafmhbceaaSl
namespace Go.Proofs.Ytijhadafmhbceaa
set_option linter.unusedVariables false
set_option linter.unusedSimpArgs false
open Go.RowKit
noncomputable def sdGo (N : Net) (fl su : List Int) : Nat → Nat → Bfs → Int
  | 0, k, _ => k
  | r + 1, k, b => if (stR N b.lo b.hi b.nw fl su).2 = false then k else sdGo N fl su r (k + 1) (stR N b.lo b.hi b.nw fl su).1
noncomputable def sdR (N : Net) (ll lh ln : List Int) (x : Hr) : Int × Int :=
  if hrC N ll lh ln x = 0 then (sdGo N x.fl x.su 48 0 ⟨ll, lh, ln⟩, 0) else (0, hrC N ll lh ln x)
theorem sdGo_no {N : Net} {fl su : List Int} {k : Nat} {b : Bfs} (hk : k < 48) (h : (stR N b.lo b.hi b.nw fl su).2 = false) : sdGo N fl su (48 - k) k b = k := by
  obtain ⟨r, hr⟩ : ∃ r, 48 - k = r + 1 := ⟨47 - k, by omega⟩
  rw [hr, sdGo, if_pos h]
theorem sdGo_yes {N : Net} {fl su : List Int} {k : Nat} {b : Bfs} (hk : k < 48) (h : (stR N b.lo b.hi b.nw fl su).2 = true) : sdGo N fl su (48 - k) k b = sdGo N fl su (48 - (k + 1)) (k + 1) (stR N b.lo b.hi b.nw fl su).1 := by
  obtain ⟨r, hr⟩ : ∃ r, 48 - k = r + 1 := ⟨47 - k, by omega⟩
  rw [hr, sdGo, h, if_neg (by simp), show 48 - (k + 1) = r by omega]
theorem sdGo_end {N : Net} {fl su : List Int} {k : Nat} {b : Bfs} (hk : ¬ k < 48) : sdGo N fl su (48 - k) k b = k := by
  rw [show 48 - k = 0 by omega, sdGo]
theorem stR_ok {N : Net} {ll lh ln fl su : List Int} (h : (stR N ll lh ln fl su).2 = true) :
    BufOk N.nodes.length (stR N ll lh ln fl su).1.lo (stR N ll lh ln fl su).1.hi (stR N ll lh ln fl su).1.nw := by
  cases hl : limF fl N.pipes
  · rw [stR_no hl] at h; cases h
  · rw [stR_yes hl] at h ⊢
    exact bufB_ok h
theorem Rd.blk {w : World} {A : Option Addr} {xs : List Value} (h : Rd w A xs) (hx : xs ≠ []) : ∀ k, onA A k → k < w.heap.size := fun k hk => by
  obtain ⟨b, off, e, hb, _⟩ := h hx
  obtain ⟨o2, e2⟩ := hk
  rw [e2] at e
  injection e with e
  injection e with e
  omega
/-- the three lists lie elsewhere than block p -/
def Off (p : Nat) (A1 A2 A3 : Option Addr) : Prop := (∀ k, onA A1 k → k ≠ p) ∧ (∀ k, onA A2 k → k ≠ p) ∧ ∀ k, onA A3 k → k ≠ p
theorem BufAt.off {w : World} {A1 A2 A3 : Option Addr} {l1 l2 l3 : List Int} {n p : Nat} (h : BufAt w A1 A2 A3 l1 l2 l3) (hk : BufOk n l1 l2 l3) (hn : 1 ≤ n) (hp : w.heap.size ≤ p) : Off p A1 A2 A3 := by
  have e1 := hk.l1
  have e2 := hk.l2
  have e3 := hk.l3
  refine ⟨fun k hk => ?_, fun k hk => ?_, fun k hk => ?_⟩
  · have := h.r1.blk (by intro e; have := congrArg List.length e; simp at this; simp [this] at e1; omega) k hk; omega
  · have := h.r2.blk (by intro e; have := congrArg List.length e; simp at this; simp [this] at e2; omega) k hk; omega
  · have := h.r3.blk (by intro e; have := congrArg List.length e; simp at this; simp [this] at e3; omega) k hk; omega
theorem BufW.off {base p : Nat} {w : World} {A1 A2 A3 : Option Addr} {l1 l2 l3 : List Int} (h : BufW base w A1 A2 A3 l1 l2 l3) (hp : p < base) : Off p A1 A2 A3 :=
  ⟨fun k hk => by have := h.r1.lo k hk; omega, fun k hk => by have := h.r2.lo k hk; omega, fun k hk => by have := h.r3.lo k hk; omega⟩
theorem BufW.fresh {base p : Nat} {w : World} {A1 A2 A3 : Option Addr} {l1 l2 l3 : List Int} (h : BufW base w A1 A2 A3 l1 l2 l3) (hp : w.heap.size ≤ p) : Off p A1 A2 A3 :=
  ⟨fun k hk => by have := h.r1.hi k hk; omega, fun k hk => by have := h.r2.hi k hk; omega, fun k hk => by have := h.r3.hi k hk; omega⟩
theorem BufW.seto {base : Nat} {w : World} {A1 A2 A3 : Option Addr} {l1 l2 l3 : List Int} (h : BufW base w A1 A2 A3 l1 l2 l3) {p : Addr} (ho : Off p.block A1 A2 A3) (u : Value) : BufW base (w.setCell p u) A1 A2 A3 l1 l2 l3 :=
  h.setx ho.1 ho.2.1 ho.2.2 u
/-- what goes around the loop of SteadyHours -/
structure SdI (w : World) (P : Nat) (N : Net) (x : Hr) (tot : Int) (k : Nat) (b : Bfs) (A1 A2 A3 : Option Addr) (c1 c2 c3 : Nat) (wr : World) : Prop where
  le : k ≤ 48
  go : sdGo N x.fl x.su (48 - k) k b = tot
  at_ : BufAt wr A1 A2 A3 b.lo b.hi b.nw
  ok : BufOk N.nodes.length b.lo b.hi b.nw
  off : Off P A1 A2 A3
  bx : Bx wr P [.slice A1 b.lo.length c1, .slice A2 b.hi.length c2, .slice A3 b.nw.length c3]
end Go.Proofs.Ytijhadafmhbceaa
