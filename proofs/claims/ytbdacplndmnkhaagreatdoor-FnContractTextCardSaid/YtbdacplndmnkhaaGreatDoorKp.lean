/- What stays where only some blocks were written. -/
import Derived.Test.YtbdacplndmnkhaaGreatDoorRd
namespace Go.Proofs.YtbdacplndmnkhaaGreatDoor
set_option linter.unusedVariables false
set_option linter.unusedSimpArgs false
open Go.RowKit
/-- w' is as w was but for the blocks of S -/
structure Keep (S : Nat → Prop) (w w' : World) : Prop where
  os : w'.os = w.os
  tape : w'.tape = w.tape
  output : w'.output = w.output
  size : w.heap.size ≤ w'.heap.size
  block : ∀ k, k < w.heap.size → ¬ S k → w'.heap[k]? = w.heap[k]?
section
variable {S : Nat → Prop} {w w' a : World}
theorem Keep.refl (S : Nat → Prop) (w : World) : Keep S w w := ⟨rfl, rfl, rfl, Nat.le_refl _, fun _ _ _ => rfl⟩
theorem Keep.trans (h : Keep S a w) (k : Keep S w w') : Keep S a w' :=
  ⟨k.os.trans h.os, k.tape.trans h.tape, k.output.trans h.output, Nat.le_trans h.size k.size, fun i hi hs => (k.block i (Nat.lt_of_lt_of_le hi h.size) hs).trans (h.block i hi hs)⟩
theorem Keep.mono {S' : Nat → Prop} (h : Keep S w w') (hS : ∀ k, S k → S' k) : Keep S' w w' := ⟨h.os, h.tape, h.output, h.size, fun k hk hs => h.block k hk fun q => hs (hS k q)⟩
theorem Keep.of_below (S : Nat → Prop) (h : Below w.heap.size w w') : Keep S w w' := ⟨h.os, h.tape, h.output, h.size, fun k hk _ => h.block k hk⟩
theorem Keep.setCell (h : Keep S a w) {p : Addr} (hp : S p.block) (u : Value) : Keep S a (w.setCell p u) :=
  h.trans ⟨rfl, rfl, rfl, by simp [World.setCell], fun k _ hs => Below.heap_setCell _ _ _ _ (fun e => hs (e ▸ hp))⟩
theorem Keep.below {B : Nat} (h : Keep S w w') (hb : Below B a w) (hB : B ≤ w.heap.size) (hS : ∀ k, S k → B ≤ k) : Below B a w' :=
  hb.trans ⟨h.os, h.tape, h.output, h.size, fun k hk => h.block k (by omega) (fun q => by have := hS k q; omega)⟩
theorem Keep.cell (h : Keep S w w') (b o : Nat) (hlt : b < w.heap.size) (hs : ¬ S b) : w'.cell? ⟨b, o, none⟩ = w.cell? ⟨b, o, none⟩ := World.cell?_of_block (w := w) (h.block b hlt hs)
theorem Keep.frozen (h : Keep S w w') (b o : Nat) (hlt : b < w.heap.size) (hs : ¬ S b) : w'.frozen? ⟨b, o, none⟩ = w.frozen? ⟨b, o, none⟩ := World.frozen?_of_block (w := w) (h.block b hlt hs)
theorem Keep.alloc (h : Keep S a w) (o : Obj) : Keep S a (w.alloc o) := h.trans (Keep.of_below S ((Below.refl _ _).alloc (Nat.le_refl _) o))
theorem Keep.drew (h : Keep S a w) : Keep S a w.drew := ⟨h.os, h.tape, h.output, h.size, h.block⟩
theorem Keep.drewN (h : Keep S a w) (n : Nat) : Keep S a (w.drewN n) := ⟨h.os, h.tape, h.output, h.size, h.block⟩
theorem Keep.new (h : Keep S a w) {p : Addr} (hp : a.heap.size ≤ p.block) (u : Value) : Keep S a (w.setCell p u) :=
  ⟨h.os, h.tape, h.output, by have := h.size; simpa [World.setCell] using this, fun k hk hs => (Below.heap_setCell _ _ _ _ (fun e => by omega)).trans (h.block k hk hs)⟩
theorem Keep.via {w'' : World} (h : Keep S a w) (hb : Below w.heap.size w w'') : Keep S a w'' := h.trans (Keep.of_below S hb)
theorem Rd.keep {A : Option Addr} {xs : List Value} (h : Rd w A xs) (hk : Keep S w w') (hA : ∀ b off, A = some ⟨b, off, none⟩ → ¬ S b) : Rd w' A xs := fun hne => by
  obtain ⟨b, off, e, hb, hat⟩ := h hne
  exact ⟨b, off, e, Nat.lt_of_lt_of_le hb hk.size, fun j v hj => (hk.cell b _ hb (hA b off e)).trans (hat j v hj)⟩
theorem Arr.keep {g N : Nat} {xs : List Value} (h : Arr w g N xs) (hk : Keep S w w') (hg : ¬ S g) : Arr w' g N xs :=
  ⟨Nat.lt_of_lt_of_le h.1 hk.size, fun j hj => ⟨by obtain ⟨v, hv⟩ := h.some_ hj; exact ⟨v, (hk.cell g j h.1 hg).trans hv⟩, (hk.frozen g j h.1 hg).trans (h.free hj)⟩,
    fun j v e => (hk.cell g j h.1 hg).trans (h.cell e)⟩
end
end Go.Proofs.YtbdacplndmnkhaaGreatDoor
