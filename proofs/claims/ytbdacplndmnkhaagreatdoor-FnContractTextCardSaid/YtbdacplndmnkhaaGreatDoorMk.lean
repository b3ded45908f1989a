/- Writing marks into slices that the law owns: what else stays. -/
import Derived.Test.YtbdacplndmnkhaaGreatDoorLI
import Derived.Test.YtbdacplndmnkhaaGreatDoorKp
import Derived.Test.YtbdacplndmnkhaaGreatDoorAp
import Derived.Test.YtbdacplndmnkhaaGreatDoorDat
namespace Go.Proofs.YtbdacplndmnkhaaGreatDoor
set_option linter.unusedVariables false
set_option linter.unusedSimpArgs false
open Go.RowKit
theorem Arr.none_ {w : World} {g N : Nat} {xs : List Value} (h : Arr w g N xs) : Arr w g N [] := ⟨h.1, h.2.1, fun j v e => by simp at e⟩
/-- the slice at A of N cells lies in a block of its own from base on, may be written, and reads as xs -/
def Wr (base : Nat) (w : World) (A : Option Addr) (N : Nat) (xs : List Value) : Prop := Rd w A xs ∧ (0 < N → ∃ g, A = some ⟨g, 0, none⟩ ∧ base ≤ g ∧ Arr w g N xs) ∧ ∀ b off, A = some ⟨b, off, none⟩ → base ≤ b ∧ b < w.heap.size
/-- the block of a slice -/
def onA (A : Option Addr) (k : Nat) : Prop := ∃ off, A = some ⟨k, off, none⟩
theorem onA_some {g o k : Nat} : onA (some ⟨g, o, none⟩) k ↔ k = g :=
  ⟨fun ⟨off, e⟩ => by injection e with e; injection e with e1 e2; exact e1.symm, fun e => ⟨o, by rw [e]⟩⟩
theorem onA_none {k : Nat} : onA none k ↔ False := ⟨fun ⟨off, e⟩ => by (cases e), fun e => e.elim⟩
/-- behind the mark of an argument: the next number, and all else kept -/
def MarkIn (w : World) (S : Nat → Prop) (k0 : Int) (t : Nat) (e : Ending) (w' : World) : Prop :=
  ∃ k' : Int, e = .returned (.int .i64 k') ∧ k0 ≤ k' ∧ k' ≤ k0 + t ∧ Keep S w w'
section
variable {S : Nat → Prop} {w w' : World} {base N : Nat} {A : Option Addr} {xs : List Value}
theorem Wr.rd (h : Wr base w A N xs) : Rd w A xs := h.1
theorem Wr.lo (h : Wr base w A N xs) (k : Nat) (hk : onA A k) : base ≤ k := by obtain ⟨off, e⟩ := hk; exact (h.2.2 k off e).1
theorem Wr.hi (h : Wr base w A N xs) (k : Nat) (hk : onA A k) : k < w.heap.size := by obtain ⟨off, e⟩ := hk; exact (h.2.2 k off e).2
theorem Wr.below (h : Wr base w A N xs) (hb : Below w.heap.size w w') : Wr base w' A N xs :=
  ⟨h.1.below hb, fun hN => by obtain ⟨g, e, hg, ha⟩ := h.2.1 hN; exact ⟨g, e, hg, ha.below hb ha.1⟩, fun b off e => ⟨(h.2.2 b off e).1, Nat.lt_of_lt_of_le (h.2.2 b off e).2 hb.size⟩⟩
theorem Wr.keep (h : Wr base w A N xs) (hk : Keep S w w') (hA : ∀ k, onA A k → ¬ S k) : Wr base w' A N xs :=
  ⟨h.1.keep hk fun b off e => hA b ⟨off, e⟩, fun hN => by obtain ⟨g, e, hg, ha⟩ := h.2.1 hN; exact ⟨g, e, hg, ha.keep hk (hA g ⟨0, e⟩)⟩, fun b off e => ⟨(h.2.2 b off e).1, Nat.lt_of_lt_of_le (h.2.2 b off e).2 hk.size⟩⟩
theorem Wr.nil (base : Nat) (w : World) : Wr base w none 0 [] := ⟨Rd.nil, fun h => absurd h (by omega), fun b off e => by cases e⟩
theorem Wr.of_arr {g N : Nat} {xs : List Value} (hg : base ≤ g) (h : Arr w g N xs) : Wr base w (some ⟨g, 0, none⟩) N xs :=
  ⟨h.rd, fun _ => ⟨g, rfl, hg, h⟩, fun b off e => by injection e with e; injection e with e1 e2; subst e1; exact ⟨hg, h.1⟩⟩
theorem Own.lt_ {e : TypeId} {s n : Nat} {v : Value} (h : Own w base e s v n xs) : ∃ B c, v = .slice B n c ∧ n ≤ c ∧ Wr base w B (n * s) xs := by
  obtain ⟨B, c, rfl, hnc, hrd, hlo⟩ := h.val
  refine ⟨B, c, rfl, hnc, hrd, fun hN => ?_, fun b off e => ⟨hlo b off e, ?_⟩⟩
  · have hn : 0 < n := Nat.pos_of_ne_zero (by rintro rfl; simp at hN)
    obtain ⟨g, c', e, hg, _, ha⟩ := h.arr hn
    injection e with e1
    exact ⟨g, e1, hg, ha⟩
  · subst e
    rcases h.2 with ⟨h0, _⟩ | ⟨g, cap, cur, hv, hg, hh, _⟩
    · cases h0
    · injection hv with e1
      injection e1 with e1
      injection e1 with e1 e2
      subst e1
      rcases Nat.lt_or_ge b w.heap.size with hl | hl
      · exact hl
      · rw [Array.getElem?_eq_none hl] at hh; cases hh
end
/-- what a function that makes a list and a code hands back -/
def MadeR (w : World) (s n : Nat) (xs : List Value) (code : Int) (en : Ending) (w' : World) : Prop :=
  ∃ A c, en = .returned (.tuple #[.slice A n c, .int .i64 code]) ∧ n ≤ c ∧ Wr w.heap.size w' A (n * s) xs ∧ Below w.heap.size w w'
def markL (k0 : Int) (n : Nat) : List Int := (List.range n).map fun j : Nat => k0 + (j : Int)
theorem markL_len (k0 : Int) (n : Nat) : (markL k0 n).length = n := by simp [markL]
theorem markL_succ (k0 : Int) (n : Nat) : (markL k0 (n + 1)).map iV = (markL k0 n).map iV ++ [iV (k0 + n)] := by simp [markL, List.range_succ]
theorem markL_at (k0 : Int) {n k : Nat} (h : k < n) : (markL k0 n)[k]? = some (k0 + k) := by simp [markL, h]
theorem mark_at {w : World} {b off : Nat} {k0 : Int} {n : Nat} (h : RdAt w b off ((markL k0 n).map iV)) {k : Nat} (hk : k < n) : w.cell? ⟨b, off + k, none⟩ = some (.int .i64 (k0 + k)) := ints_at h (markL_at k0 hk)
/-- behind a mark: the next number, the marks, all else kept -/
def MarkPost (w : World) (base : Nat) (A : Option Addr) (N : Nat) (k0 : Int) (e : Ending) (w' : World) : Prop :=
  e = .returned (.int .i64 (k0 + N)) ∧ Wr base w' A N ((markL k0 N).map iV) ∧ Keep (onA A) w w'
end Go.Proofs.YtbdacplndmnkhaaGreatDoor
