/- What goes around the loops of a draw: the drawn network read, a list of the call's own. -/
import Derived.Test.YtbdacplndmnkhaaGreatDoorDci
namespace Go.Proofs.YtbdacplndmnkhaaGreatDoor
set_option linter.unusedVariables false
set_option linter.unusedSimpArgs false
open Go.RowKit
structure DG (w : World) (p X base : Nat) (A Bq : Option Addr) (c d : Nat) (N : Net) (e : TypeId) (s : Nat) (u : Value) (n : Nat) (xs : List Value) (wr : World) : Prop where
  o : Own wr base e s u n xs
  net : NetAt wr A Bq N
  bA : ∀ b off, A = some ⟨b, off, none⟩ → w.heap.size < b ∧ b < base
  bB : ∀ b off, Bq = some ⟨b, off, none⟩ → w.heap.size < b ∧ b < base
  src : Src wr p
  kp : Keep (· = p) w wr
  b0 : Bx wr w.heap.size [.slice none 0 0, .slice none 0 0]
  bX : Bx wr X [.slice A N.nodes.length c, .slice Bq N.pipes.length d]
  sX : w.heap.size < X ∧ X < base
  sz : base ≤ wr.heap.size
section
variable {w wr wr' : World} {p X base : Nat} {A Bq : Option Addr} {c d : Nat} {N : Net} {e : TypeId} {s n n' : Nat} {u u' : Value} {xs xs' : List Value}
theorem DG.keep (h : DG w p X base A Bq c d N e s u n xs wr) (hp : p < w.heap.size) (hk : Keep (· = p) wr wr') (hs : Src wr' p) : DG w p X base A Bq c d N e s u n xs wr' := by
  have hX := h.sX
  exact ⟨h.o.keepp hk (by omega), h.net.keepC hk (fun b off e q => by have := (h.bA b off e).1; omega) (fun b off e q => by have := (h.bB b off e).1; omega), h.bA, h.bB, hs, h.kp.trans hk, h.b0.keep hk (by omega), h.bX.keep hk (by omega), h.sX, Nat.le_trans h.sz hk.size⟩
theorem DG.below (h : DG w p X base A Bq c d N e s u n xs wr) (hb : Below wr.heap.size wr wr') : DG w p X base A Bq c d N e s u n xs wr' :=
  ⟨h.o.below hb (Nat.le_refl _), h.net.below hb, h.bA, h.bB, h.src.below hb, h.kp.trans (Keep.of_below _ hb), h.b0.below hb h.b0.lt, h.bX.below hb h.bX.lt, h.sX, Nat.le_trans h.sz hb.size⟩
/-- a write to the list's memory alone -/
theorem DG.put (h : DG w p X base A Bq c d N e s u n xs wr) (hp : p < w.heap.size) (ho : Own wr' base e s u' n' xs') (hb : Below base wr wr') : DG w p X base A Bq c d N e s u' n' xs' wr' := by
  have hX := h.sX
  have hk : Keep (fun k => base ≤ k) wr wr' := ⟨hb.os, hb.tape, hb.output, hb.size, fun k _ h2 => hb.block k (by omega)⟩
  refine ⟨ho, h.net.keepC hk (fun b off e q => by have := (h.bA b off e).2; omega) (fun b off e q => by have := (h.bB b off e).2; omega), h.bA, h.bB, h.src.high hb (by omega), ?_, h.b0.below hb (by omega), h.bX.below hb hX.2, h.sX, Nat.le_trans h.sz hb.size⟩
  exact ⟨hb.os.trans h.kp.os, hb.tape.trans h.kp.tape, hb.output.trans h.kp.output, Nat.le_trans h.kp.size hb.size, fun q h1 h2 => (hb.block q (by omega)).trans (h.kp.block q h1 h2)⟩
/-- a write to a box made behind the list -/
theorem DG.poke {g : Nat} (h : DG w p X base A Bq c d N e s u n xs wr) (hp : p < w.heap.size) (hg : base ≤ g) (hne : u.ownBlock ≠ some g) (hk : Keep (· = g) wr wr') : DG w p X base A Bq c d N e s u n xs wr' :=
  h.put hp (h.o.keepg hk hne) ⟨hk.os, hk.tape, hk.output, hk.size, fun k q => hk.block k (by have := h.sz; omega) (by omega)⟩
/-- what such a draw hands back -/
def DrewG (w : World) (p : Nat) (f : List Value → Nat → Prop) (e : Ending) (w' : World) : Prop :=
  ∃ (A Bq Al : Option Addr) (c d cl n : Nat) (N : Net) (xs : List Value), e = .returned (.tuple #[netV A Bq N.nodes.length c N.pipes.length d, .slice Al n cl]) ∧ f xs n ∧ N.nodes.length ≤ c ∧ NetAt w' A Bq N ∧ Rd w' Al xs ∧ n ≤ 128 ∧ Src w' p ∧ Keep (· = p) w w' ∧ (∀ b off, A = some ⟨b, off, none⟩ → w.heap.size ≤ b) ∧ (∀ b off, Bq = some ⟨b, off, none⟩ → w.heap.size ≤ b) ∧ (∀ b off, Al = some ⟨b, off, none⟩ → w.heap.size ≤ b)
theorem dg_post {f : List Value → Nat → Prop} {Al : Option Addr} {cl : Nat} (hp : p < w.heap.size) (h : DG w p X base A Bq c d N e s (.slice Al n cl) n xs wr) (hf : f xs n) (hnc : N.nodes.length ≤ c) (hl : n ≤ 128) :
    DrewG w p f (.returned (.tuple #[netV A Bq N.nodes.length c N.pipes.length d, .slice Al n cl])) ((wr.setCell ⟨w.heap.size, 0, none⟩ (.slice A N.nodes.length c)).setCell ⟨w.heap.size, 1, none⟩ (.slice Bq N.pipes.length d)) := by
  have hX := h.sX
  have hb0 := h.b0.lt
  have hsz := h.sz
  have hk : Keep (· = w.heap.size) wr ((wr.setCell ⟨w.heap.size, 0, none⟩ (.slice A N.nodes.length c)).setCell ⟨w.heap.size, 1, none⟩ (.slice Bq N.pipes.length d)) := ((Keep.refl _ _).one _).one _
  refine ⟨A, Bq, Al, c, d, cl, n, N, xs, rfl, hf, hnc, h.net.keepC hk (fun b off e q => by have := (h.bA b off e).1; omega) (fun b off e q => by have := (h.bB b off e).1; omega), ?_, hl, h.src.high (B := p + 1) (by (repeat' (first | (with_reducible exact Below.refl _ _) | (with_reducible assumption) | (with_reducible refine Below.alloc ?_ ?_ _) | (with_reducible refine Below.drew ?_) | (with_reducible refine Below.drewN' ?_ _) | (with_reducible refine Below.setCell ?_ ?_ _) | (refine Below.via ?_ (by with_reducible assumption) ?_) | (with_reducible refine Below.via ?_ (Wd.h _) ?_) | go_size))) (by omega), by have h1 := h.kp; (repeat' (first | (with_reducible exact Keep.refl _ _) | (with_reducible assumption) | (with_reducible refine Keep.alloc ?_ _) | (with_reducible refine Keep.drew ?_) | (with_reducible refine Keep.drewN ?_ _) | (refine Keep.trans ?_ (by with_reducible assumption)) | (refine Keep.via ?_ (by with_reducible assumption)) | (with_reducible refine Keep.new ?_ ?_ _) | go_size)), fun b off e => by have := (h.bA b off e).1; omega, fun b off e => by have := (h.bB b off e).1; omega, fun b off e => by have := World.ownsRow.lt h.o b (by rw [e]; rfl); omega⟩
  exact ((h.o.set_below (a := ⟨w.heap.size, 0, none⟩) (by simp; omega) (.slice A N.nodes.length c)).set_below (a := ⟨w.heap.size, 1, none⟩) (by simp; omega) (.slice Bq N.pipes.length d)).rdv.1
end
end Go.Proofs.YtbdacplndmnkhaaGreatDoor
