/- The walk of the law FnNominatedSupplies: for all bytes it returns true and writes nothing that was there. -/
import Derived.Test.YtlbidcblpmdgaaaRgt
import Derived.Test.YtlbidcblpmdgaaaAp2
import Derived.Test.YtlbidcblpmdgaaaMxQ
import Derived.Test.YtlbidcblpmdgaaaMxZ
import Derived.Test.YtlbidcblpmdgaaaSu
import Derived.Test.YtlbidcblpmdgaaaDak
import Derived.Test.YtlbidcblpmdgaaaMxN
namespace Go.Proofs.Ytlbidcblpmdgaaa
set_option linter.unusedVariables false
set_option linter.unusedSimpArgs false
open Go.RowKit
theorem Far.bx {w w' : World} {v v' : Value} {b : Nat} {cs : List Value} (h : Far w w' v v') (hb : Bx w b cs) (hv : v.ownBlock ≠ some b) : Bx w' b cs := by
  have e := h.grow.block b hb.1 (fun e => hv e.symm)
  refine ⟨?_, fun k u q => ⟨?_, ?_⟩⟩
  · rcases Nat.lt_or_ge b w'.heap.size with hlt | hge
    · exact hlt
    · rw [Array.getElem?_eq_none hge] at e
      have := hb.1
      simp [this] at e
  · exact (World.cell?_of_block (w := w) e).trans (hb.2 k u q).1
  · exact (World.frozen?_of_block (w := w) e).trans (hb.2 k u q).2
structure WG (base b11 : Nat) (c11 : List Value) (v : Value) (m : Nat) (xs : List Value) (c2 : List Value) (w9 : World) (L : Nat → Bool) (ρ : Nat × Value × Nat) (w : World) : Prop where
  bl : Below base w9 w
  b11 : Bx w b11 c11
  own : L 3 = false → Own w base 2 1 v m xs
  own2 : L 10 = false → L 3 = true → Own w base 2 1 ρ.2.1 (m + 1) (xs ++ [iV 30000])
  lit : L 3 = false → L 2 = true → w9.heap.size ≤ ρ.1 ∧ Bx w ρ.1 [iV 30000]
  box : L 9 = true → w9.heap.size ≤ ρ.2.2 ∧ ∃ y0 y1 y2 y3 y4, Bx w ρ.2.2 [y0, y1, y2, y3, y4]
  box2 : L 10 = true → Bx w ρ.2.2 c2
variable {base b11 m : Nat} {c11 : List Value} {v : Value} {xs c2 : List Value} {w9 w w' : World} {L : Nat → Bool} {ρ : Nat × Value × Nat}
theorem WG.start (h1 : Below base w9 w) (h2 : Bx w b11 c11) (h3 : Own w base 2 1 v m xs) : WG base b11 c11 v m xs c2 w9 (fun _ => false) ρ w :=
  ⟨h1, h2, fun _ => h3, (fun _ h => by cases h), (fun _ h => by cases h), (fun h => by cases h), (fun h => by cases h)⟩
theorem WG.pure (h : WG base b11 c11 v m xs c2 w9 L ρ w) {i : Nat} (h1 : 2 ≠ i) (h2 : 3 ≠ i) (h3 : 9 ≠ i) (h4 : 10 ≠ i) : WG base b11 c11 v m xs c2 w9 (upd L i) ρ w := by
  constructor <;> try simp only [upd_ne h1, upd_ne h2, upd_ne h3, upd_ne h4]
  · exact h.bl
  · exact h.b11
  · exact h.own
  · exact h.own2
  · exact h.lit
  · exact h.box
  · exact h.box2
theorem WG.below (h : WG base b11 c11 v m xs c2 w9 L ρ w) (hB : base ≤ w.heap.size) (hb : Below w.heap.size w w') : WG base b11 c11 v m xs c2 w9 L ρ w' := by
  constructor
  · exact h.bl.trans (hb.mono hB)
  · exact h.b11.below hb h.b11.lt
  · intro q; exact (h.own q).below hb (Nat.le_refl _)
  · intro q r; exact (h.own2 q r).below hb (Nat.le_refl _)
  · intro r q; exact ⟨(h.lit r q).1, (h.lit r q).2.below hb (h.lit r q).2.lt⟩
  · intro q; obtain ⟨a, y0, y1, y2, y3, y4, c⟩ := h.box q; exact ⟨a, y0, y1, y2, y3, y4, c.below hb c.lt⟩
  · intro q; exact (h.box2 q).below hb (h.box2 q).lt
theorem WG.made (h : WG base b11 c11 v m xs c2 w9 L ρ w) (hB : base ≤ w.heap.size) (hb : Below w.heap.size w w') (hx : Bx w' w.heap.size [iV 30000]) : WG base b11 c11 v m xs c2 w9 (upd L 2) (w.heap.size, ρ.2.1, ρ.2.2) w' := by
  have hs := h.bl.size
  have h := h.below hB hb
  constructor <;> try simp only [upd_ne (L := L) (i := 2) (j := 3) (by omega), upd_ne (L := L) (i := 2) (j := 9) (by omega), upd_ne (L := L) (i := 2) (j := 10) (by omega), upd_self]
  · exact h.bl
  · exact h.b11
  · exact h.own
  · exact h.own2
  · exact fun _ _ => ⟨hs, hx⟩
  · exact h.box
  · exact h.box2
theorem WG.boxed (h : WG base b11 c11 v m xs c2 w9 L ρ w) (hB : base ≤ w.heap.size) (h10 : L 10 = false) (hb : Below w.heap.size w w') {y0 y1 y2 y3 y4 : Value} (hx : Bx w' w.heap.size [y0, y1, y2, y3, y4]) : WG base b11 c11 v m xs c2 w9 (upd L 9) (ρ.1, ρ.2.1, w.heap.size) w' := by
  have hs := h.bl.size
  have h := h.below hB hb
  constructor <;> try simp only [upd_ne (L := L) (i := 9) (j := 3) (by omega), upd_ne (L := L) (i := 9) (j := 2) (by omega), upd_ne (L := L) (i := 9) (j := 10) (by omega), upd_self]
  · exact h.bl
  · exact h.b11
  · exact h.own
  · exact h.own2
  · exact h.lit
  · exact fun _ => ⟨hs, _, _, _, _, _, hx⟩
  · intro q; rw [h10] at q; cases q
theorem WG.app (h : WG base b11 c11 v m xs c2 w9 L ρ w) (h10 : L 10 = false) (hB : base ≤ w9.heap.size) (h0 : Own w9 base 2 1 v m xs) (hv : v.ownBlock ≠ some b11) {v' : Value} (ho : Own w' base 2 1 v' (m + 1) (xs ++ [iV 30000])) (hb : Below base w w') (hf : Far w w' v v') : WG base b11 c11 v m xs c2 w9 (upd L 3) (ρ.1, v', ρ.2.2) w' := by
  have hn : ∀ b, w9.heap.size ≤ b → v.ownBlock ≠ some b := fun b hb => h0.ne (Or.inr hb)
  constructor <;> try simp only [upd_ne (L := L) (i := 3) (j := 9) (by omega), upd_ne (L := L) (i := 3) (j := 2) (by omega), upd_ne (L := L) (i := 3) (j := 10) (by omega), upd_self]
  · exact h.bl.trans hb
  · exact hf.bx h.b11 hv
  · intro q; cases q
  · exact fun _ _ => ho
  · intro q; cases q
  · intro q; obtain ⟨a, y0, y1, y2, y3, y4, c⟩ := h.box q; exact ⟨a, y0, y1, y2, y3, y4, hf.bx c (hn _ a)⟩
  · intro q; rw [h10] at q; cases q
theorem WG.store (h : WG base b11 c11 v m xs c2 w9 L ρ w) (h9 : L 9 = true) (h3 : L 3 = true) (h11 : b11 < w9.heap.size) (hB : base ≤ w9.heap.size) (hk : Keep (· = ρ.2.2) w w') {z0 z1 z2 z3 z4 : Value} (hc : c2 = [z0, z1, z2, z3, z4]) (hx : Bx w' ρ.2.2 c2) : WG base b11 c11 v m xs c2 w9 (upd L 10) ρ w' := by
  have hg := (h.box h9).1
  constructor <;> try simp only [upd_ne (L := L) (i := 10) (j := 9) (by omega), upd_ne (L := L) (i := 10) (j := 2) (by omega), upd_ne (L := L) (i := 10) (j := 3) (by omega), upd_self]
  · exact h.bl.trans ⟨hk.os, hk.tape, hk.output, hk.size, fun k q => hk.block k (by have := h.bl.size; omega) (by omega)⟩
  · exact h.b11.keep hk (by omega)
  · intro q; rw [h3] at q; cases q
  · intro q; cases q
  · intro q; rw [h3] at q; cases q
  · exact fun _ => ⟨hg, z0, z1, z2, z3, z4, hc ▸ hx⟩
  · exact fun _ => hx
end Go.Proofs.Ytlbidcblpmdgaaa
namespace Go.Proofs.Ytlbidcblpmdgaaa
set_option linter.unusedVariables false
set_option linter.unusedSimpArgs false
open Go.RowKit
theorem Own.keepG {S : Nat → Prop} {w w' : World} {base s n : Nat} {e : TypeId} {v : Value} {xs : List Value} (h : Own w base e s v n xs) (hk : Keep S w w') (hS : ∀ g, v.ownBlock = some g → ¬ S g) : Own w' base e s v n xs := by
  refine ⟨h.1, ?_⟩
  rcases h.2 with h0 | ⟨g, cap, cur, hv, hg, hh, r⟩
  · exact .inl h0
  · refine .inr ⟨g, cap, cur, hv, hg, ?_, r⟩
    have hlt : g < w.heap.size := by
      rcases Nat.lt_or_ge g w.heap.size with hl | hl
      · exact hl
      · rw [Array.getElem?_eq_none hl] at hh; cases hh
    rw [hk.block g hlt (hS g (by rw [hv]; rfl))]; exact hh
theorem Far.arr {w w' : World} {v v' : Value} {g n : Nat} {xs : List Value} (h : Far w w' v v') (ha : Arr w g n xs) (hv : v.ownBlock ≠ some g) : Arr w' g n xs := by
  have hb := ha.lt
  have hx := h.bx (Bx.nil hb) hv
  exact ⟨hx.lt, fun j hj => ⟨by obtain ⟨u, hu⟩ := ha.some_ hj; exact ⟨u, (h.cell hb hv).trans hu⟩, (h.frozen hb hv).trans (ha.free hj)⟩, fun j u e => (h.cell hb hv).trans (ha.cell e)⟩
theorem Bx.set0 {w : World} {b : Nat} {z v : Value} {cs : List Value} (h : Bx w b (z :: cs)) : Bx (w.setCell ⟨b, 0, none⟩ v) b (v :: cs) := by
  refine ⟨by simpa [World.setCell] using h.1, fun k u e => ?_⟩
  cases k with
  | zero => simp at e; subst e; exact ⟨World.cell?_setCell_same _ _ _ (h.cell 0 rfl), by simp [h.frozen 0 rfl]⟩
  | succ k =>
    have e' : (z :: cs)[k + 1]? = some u := by simpa using e
    exact ⟨(World.cell?_setCell_other _ _ _ _ (by intro e; injection e; omega)).trans (h.cell (k + 1) e'), by simp [h.frozen (k + 1) e']⟩
/-- a drawn region that writes one cell of each of two arrays -/
structure WS2 (k1 k2 b1 b2 n : Nat) (x1 y1 x2 y2 : List Value) (w0 : World) (L : Nat → Bool) (ρ : Unit) (w : World) : Prop where
  kp : Keep (fun k => k = b1 ∨ k = b2) w0 w
  a0 : L k1 = false → Arr w b1 n x1
  a1 : L k1 = true → Arr w b1 n y1
  c0 : L k2 = false → Arr w b2 n x2
  c1 : L k2 = true → Arr w b2 n y2
section
variable {k1 k2 b1 b2 n : Nat} {x1 y1 x2 y2 : List Value} {w0 w : World} {L : Nat → Bool} {ρ : Unit}
theorem WS2.start (hk : Keep (fun k => k = b1 ∨ k = b2) w0 w) (h1 : Arr w b1 n x1) (h2 : Arr w b2 n x2) : WS2 k1 k2 b1 b2 n x1 y1 x2 y2 w0 (fun _ => false) ρ w :=
  ⟨hk, fun _ => h1, (fun e => by cases e), fun _ => h2, (fun e => by cases e)⟩
theorem WS2.pure (h : WS2 k1 k2 b1 b2 n x1 y1 x2 y2 w0 L ρ w) {i : Nat} (h1 : k1 ≠ i) (h2 : k2 ≠ i) : WS2 k1 k2 b1 b2 n x1 y1 x2 y2 w0 (upd L i) ρ w := by
  constructor <;> try simp only [upd_ne h1, upd_ne h2]
  · exact h.kp
  · exact h.a0
  · exact h.a1
  · exact h.c0
  · exact h.c1
theorem WS2.st1 (h : WS2 k1 k2 b1 b2 n x1 y1 x2 y2 w0 L ρ w) (hl : L k1 = false) (hne : k2 ≠ k1) (hb : b1 ≠ b2) {i : Nat} {v : Value} (hi : i < n) (hy : y1 = x1.set i v) : WS2 k1 k2 b1 b2 n x1 y1 x2 y2 w0 (upd L k1) ρ (w.setCell ⟨b1, i, none⟩ v) := by
  refine ⟨h.kp.setCell (p := ⟨b1, i, none⟩) (.inl rfl) v, (fun e => by rw [upd_self] at e; cases e), fun _ => by rw [hy]; exact (h.a0 hl).setAt hi v, ?_, ?_⟩ <;> rw [upd_ne hne]
  · exact fun e => (h.c0 e).far (fun q => hb q.symm) v
  · exact fun e => (h.c1 e).far (fun q => hb q.symm) v
theorem WS2.st2 (h : WS2 k1 k2 b1 b2 n x1 y1 x2 y2 w0 L ρ w) (hl : L k2 = false) (hne : k1 ≠ k2) (hb : b1 ≠ b2) {i : Nat} {v : Value} (hi : i < n) (hy : y2 = x2.set i v) : WS2 k1 k2 b1 b2 n x1 y1 x2 y2 w0 (upd L k2) ρ (w.setCell ⟨b2, i, none⟩ v) := by
  refine ⟨h.kp.setCell (p := ⟨b2, i, none⟩) (.inr rfl) v, ?_, ?_, (fun e => by rw [upd_self] at e; cases e), fun _ => by rw [hy]; exact (h.c0 hl).setAt hi v⟩ <;> rw [upd_ne hne]
  · exact fun e => (h.a0 e).far hb v
  · exact fun e => (h.a1 e).far hb v
end
/-- the region that makes a search's record: the order's list, two arrays, the box -/
structure WS1 (w0 : World) (node : Int) (n : Nat) (L : Nat → Bool) (ρ : Rz) (w : World) : Prop where
  wb : WB w0 [(1, 0, [node]), (5, 1, List.replicate n 0), (9, 2, List.replicate n 0)] 11 12 [.slice none 0 0, .slice none 0 0, .slice none 0 0] (fun ρ => [.slice (ρ.a 0) 1 1, .slice (ρ.a 1) n n, .slice (ρ.a 2) n n]) L ρ w
  own : L 1 = true → Own w w0.heap.size 2 1 (.slice (ρ.a 0) 1 1) 1 [iV node]
section
variable {w0 w w' : World} {node : Int} {n : Nat} {L : Nat → Bool} {ρ : Rz}
theorem own_on {A : Option Addr} {g m c base s k : Nat} {e : TypeId} {xs : List Value} {w : World} (hO : Own w base e s (.slice A m c) k xs) (h : (Value.slice A m c).ownBlock = some g) : onA A g := by
  rcases hO.2 with ⟨h0, _⟩ | ⟨g', cap, cur, hv, _⟩
  · injection h0 with e1; subst e1; simp [Value.ownBlock] at h
  · injection hv with e1; subst e1; simp [Value.ownBlock] at h; subst h; exact ⟨0, rfl⟩
theorem WS1.start (h : Below w0.heap.size w0 w) : WS1 w0 node n (fun _ => false) ρ w := ⟨WB.start h, (fun e => by cases e)⟩
theorem WS1.pure (h : WS1 w0 node n L ρ w) {i : Nat} (h0 : [1, 5, 9, 11, 12].contains i = false) : WS1 w0 node n (upd L i) ρ w := by
  simp at h0
  obtain ⟨h1, h5, h9, h11, h12⟩ := h0
  refine ⟨h.wb.pure (by simp; omega) (by omega) (by omega), ?_⟩
  rw [upd_ne (Ne.symm h1)]; exact h.own
theorem WS1.l1 (h : WS1 w0 node n L ρ w) (hks : L 12 = false) (hb : Below w.heap.size w w') (ho : Own w' w.heap.size 2 1 (.slice (some ⟨w.heap.size, 0, none⟩) 1 1) 1 [iV node]) : WS1 w0 node n (upd L 1) (ρ.list 0 (some ⟨w.heap.size, 0, none⟩) 1) w' := by
  obtain ⟨B, c, e, -, hw⟩ := ho.lt_
  injection e with e1 _ _
  subst e1
  refine ⟨h.wb.one (l := [node]) (by omega) (by omega) hks hb (by simpa using hw) (by intro i' j' l' hm hne; simp at hm; rcases hm with ⟨rfl, rfl, rfl⟩ | ⟨rfl, rfl, rfl⟩ | ⟨rfl, rfl, rfl⟩ <;> omega) (by intro j' l' hm; simpa using hm), fun _ => ?_⟩
  exact ho.lowG h.wb.bl.size
theorem WS1.l5 (h : WS1 w0 node n L ρ w) (hks : L 12 = false) (hb : Below w.heap.size w w') (ha : Arr w' w.heap.size n ((List.replicate n (0 : Int)).map iV)) : WS1 w0 node n (upd L 5) (ρ.list 1 (some ⟨w.heap.size, 0, none⟩) n) w' := by
  refine ⟨h.wb.one (l := List.replicate n 0) (by omega) (by omega) hks hb (by simpa using Wr.of_arr (Nat.le_refl _) ha) (by intro i' j' l' hm hne; simp at hm; rcases hm with ⟨rfl, rfl, rfl⟩ | ⟨rfl, rfl, rfl⟩ | ⟨rfl, rfl, rfl⟩ <;> omega) (by intro j' l' hm; simpa using hm), ?_⟩
  rw [upd_ne (by omega)]
  exact fun e => (h.own e).below hb (Nat.le_refl _)
theorem WS1.l9 (h : WS1 w0 node n L ρ w) (hks : L 12 = false) (hb : Below w.heap.size w w') (ha : Arr w' w.heap.size n ((List.replicate n (0 : Int)).map iV)) : WS1 w0 node n (upd L 9) (ρ.list 2 (some ⟨w.heap.size, 0, none⟩) n) w' := by
  refine ⟨h.wb.one (l := List.replicate n 0) (by omega) (by omega) hks hb (by simpa using Wr.of_arr (Nat.le_refl _) ha) (by intro i' j' l' hm hne; simp at hm; rcases hm with ⟨rfl, rfl, rfl⟩ | ⟨rfl, rfl, rfl⟩ | ⟨rfl, rfl, rfl⟩ <;> omega) (by intro j' l' hm; simpa using hm), ?_⟩
  rw [upd_ne (by omega)]
  exact fun e => (h.own e).below hb (Nat.le_refl _)
theorem WS1.l11 (h : WS1 w0 node n L ρ w) (hks : L 12 = false) (hb : Below w.heap.size w w') (hx : Bx w' w.heap.size [.slice none 0 0, .slice none 0 0, .slice none 0 0]) : WS1 w0 node n (upd L 11) (ρ.box w.heap.size) w' := by
  refine ⟨h.wb.boxed rfl (by omega) hks hb hx, ?_⟩
  rw [upd_ne (by omega)]
  exact fun e => (h.own e).below hb (Nat.le_refl _)
theorem WS1.l12 (h : WS1 w0 node n L ρ w) (hL : L 11 = true) (hk : Keep (· = ρ.b) w w') (hx : Bx w' ρ.b [.slice (ρ.a 0) 1 1, .slice (ρ.a 1) n n, .slice (ρ.a 2) n n]) : WS1 w0 node n (upd L 12) ρ w' := by
  refine ⟨h.wb.store rfl (by omega) hL hk hx, ?_⟩
  rw [upd_ne (by omega)]
  intro e
  exact (h.own e).keepG hk (fun g q z => (h.wb.b0 hL).2.2 1 0 [node] (by simp) e (z ▸ own_on (h.own e) q))
end
/-- the distances tell who has been seen -/
abbrev visS (D : List Int) : List Bool := D.map fun y => decide (0 ≤ y)
theorem visS_set (D : List Int) (k : Nat) {z : Int} (hz : 0 ≤ z) : visS (D.set k z) = (visS D).set k true := by
  unfold visS; rw [List.map_set]; simp [hz]
theorem visS_rep (n : Nat) : visS (List.replicate n (-1)) = List.replicate n false := by simp [visS]
/-- a search's record in memory: box X, the order u, the arrays g1 (distances) and g2 (entries) -/
structure SfB (w : World) (A B : Option Addr) (c d : Nat) (N : Net) (X g1 g2 : Nat) (u : Value) (D E O : List Int) (wr : World) : Prop where
  dl : D.length = N.nodes.length
  el : E.length = N.nodes.length
  o : Own wr (w.heap.size + 2) 2 1 u O.length (O.map iV)
  a1 : Arr wr g1 N.nodes.length (D.map iV)
  a2 : Arr wr g2 N.nodes.length (E.map iV)
  bX : Bx wr X [u, .slice (some ⟨g1, 0, none⟩) N.nodes.length N.nodes.length, .slice (some ⟨g2, 0, none⟩) N.nodes.length N.nodes.length]
  b0 : Bx wr w.heap.size [.slice A N.nodes.length c, .slice B N.pipes.length d]
  b1 : Bx wr (w.heap.size + 1) [.slice none 0 0, .slice none 0 0, .slice none 0 0]
  bl : Below w.heap.size w wr
  n1 : w.heap.size + 2 ≤ X
  n2 : w.heap.size + 2 ≤ g1
  n3 : w.heap.size + 2 ≤ g2
  d1 : X ≠ g1
  d2 : X ≠ g2
  d3 : g1 ≠ g2
  uX : u.ownBlock ≠ some X
  u1 : u.ownBlock ≠ some g1
  u2 : u.ownBlock ≠ some g2
section
variable {w wr wx : World} {A B : Option Addr} {c d : Nat} {N : Net} {X g1 g2 : Nat} {u : Value} {D E O : List Int}
theorem SfB.sz (h : SfB w A B c d N X g1 g2 u D E O wr) : w.heap.size + 2 < wr.heap.size := by have := h.n1; have := h.bX.lt; omega
theorem SfB.below (h : SfB w A B c d N X g1 g2 u D E O wr) (hb : Below wr.heap.size wr wx) : SfB w A B c d N X g1 g2 u D E O wx :=
  ⟨h.dl, h.el, h.o.below hb (Nat.le_refl _), h.a1.below hb h.a1.lt, h.a2.below hb h.a2.lt, h.bX.below hb h.bX.lt, h.b0.below hb h.b0.lt, h.b1.below hb h.b1.lt, h.bl.trans (hb.mono h.bl.size), h.n1, h.n2, h.n3, h.d1, h.d2, h.d3, h.uX, h.u1, h.u2⟩
theorem SfB.two {D' E' : List Int} (h : SfB w A B c d N X g1 g2 u D E O wr) (hk : Keep (fun k => k = g1 ∨ k = g2) wr wx) (h1 : Arr wx g1 N.nodes.length (D'.map iV)) (h2 : Arr wx g2 N.nodes.length (E'.map iV)) (hD : D'.length = N.nodes.length) (hE : E'.length = N.nodes.length) : SfB w A B c d N X g1 g2 u D' E' O wx := by
  have n2 := h.n2
  have n3 := h.n3
  have d1 := h.d1
  have d2 := h.d2
  refine ⟨hD, hE, h.o.keepG hk (fun g q z => ?_), h1, h2, h.bX.keep hk (by omega), h.b0.keep hk (by omega), h.b1.keep hk (by omega), hk.below h.bl h.bl.size (fun k q => by omega), h.n1, h.n2, h.n3, h.d1, h.d2, h.d3, h.uX, h.u1, h.u2⟩
  rcases z with z | z
  · exact h.u1 (z ▸ q)
  · exact h.u2 (z ▸ q)
theorem SfB.app {v' : Value} {w' : World} {tn : Int} {ob : Obj} (h : SfB w A B c d N X g1 g2 u D E O wr) (ho : Own w' (w.heap.size + 2) 2 1 v' (O.length + 1) (O.map iV ++ [iV tn])) (hb : Below (w.heap.size + 2) (wr.alloc ob) w') (hf : Far (wr.alloc ob) w' u v') : SfB w A B c d N X g1 g2 v' D E (O ++ [tn]) (w'.setCell ⟨X, 0, none⟩ v') := by
  have hal : Below wr.heap.size wr (wr.alloc ob) := Below.alloc (Below.refl _ wr) (Nat.le_refl _) _
  have ha := h.below hal
  have n1 := h.n1
  have n2 := h.n2
  have n3 := h.n3
  have d1 := h.d1
  have d2 := h.d2
  have hsz := h.sz
  have hX := h.bX.lt
  have hg1 := h.a1.lt
  have hg2 := h.a2.lt
  have hnv : ∀ g, g < wr.heap.size → u.ownBlock ≠ some g → v'.ownBlock ≠ some g := fun g hg hu hv => by
    rcases hf.lie g hv with q | q
    · exact hu q
    · simp at q; omega
  have hk1 : Keep (· = X) w' (w'.setCell ⟨X, 0, none⟩ v') := (Keep.refl (· = X) w').setCell (p := ⟨X, 0, none⟩) rfl _
  refine ⟨h.dl, h.el, ?_, (hf.arr ha.a1 h.u1).far (fun e => d1 e.symm) _, (hf.arr ha.a2 h.u2).far (fun e => d2 e.symm) _, (hf.bx ha.bX h.uX).set0, ?_, ?_, ?_, h.n1, h.n2, h.n3, h.d1, h.d2, h.d3, hnv X hX h.uX, hnv g1 hg1 h.u1, hnv g2 hg2 h.u2⟩
  · have := ho.keepG hk1 (fun g q z => hnv X hX h.uX (z ▸ q))
    simpa using this
  · exact (ha.b0.below hb (by omega)).keep hk1 (by omega)
  · exact (ha.b1.below hb (by omega)).keep hk1 (by omega)
  · exact hk1.below (ha.bl.trans (hb.mono (by omega))) (by have := hb.size; simp at this; omega) (fun k q => by omega)
end
/-- the plain part -/
structure SfP (N : Net) (D O : List Int) : Prop where
  db : ∀ y ∈ D, -1 ≤ y ∧ y < O.length
  ol : O.length = (visS D).count true
  ob : ∀ y ∈ O, 0 ≤ y ∧ y < N.nodes.length
theorem SfP.le {N : Net} {D O : List Int} (h : SfP N D O) (hl : D.length = N.nodes.length) : O.length ≤ N.nodes.length := by
  rw [h.ol, ← hl]
  have := List.count_le_length (a := true) (l := visS D)
  simpa [visS] using this
theorem SfP.push {N : Net} {D O : List Int} {tn : Nat} {y z : Int} (h : SfP N D O) (hl : tn < N.nodes.length) (hy : D[tn]? = some y) (hn : y < 0) (hz : 0 ≤ z) (hz2 : z ≤ O.length) : SfP N (D.set tn z) (O ++ [(tn : Int)]) := by
  refine ⟨fun x hx => ?_, ?_, fun x hx => ?_⟩
  · rw [List.length_append]
    rcases List.mem_or_eq_of_mem_set hx with hx | hx
    · have := h.db x hx; simp only [List.length_singleton]; omega
    · simp only [List.length_singleton]; omega
  · rw [visS_set D tn hz, List.length_append, h.ol, cnt_set (by rw [List.getElem?_map, hy]; simp; omega)]; rfl
  · rcases List.mem_append.1 hx with hx | hx
    · exact h.ob x hx
    · have := List.mem_singleton.1 hx; omega
set_option maxRecDepth 100000 in
set_option maxHeartbeats 4000000 in
theorem impl_pipesAt (A B : Option Addr) (n c m d : Nat) (N : Net) (node : Int) (w : World) (hN : NetAt w A B N) (hn : n = N.nodes.length) (hm : m = N.pipes.length) :
    Calls Try.prog 73 #[netV A B n c m d, .int .i64 node] w fun e w' => ∃ (v : Value) (l : List Int), e = .returned v ∧ AtOk N node l ∧ AtAll N node l ∧ l.length ≤ N.pipes.length ∧ Own w' w.heap.size 2 1 v l.length (l.map iV) ∧ Below w.heap.size w w' := by
  subst hn hm
  have HN := Lib.hid hN
  have hlp := hN.lp
  clear hN
  go_enter Try.func73, Try.ntmps73
  go_wp2
  go_loopw [5, 11] (fun u v wr => ∃ (k : Nat) (l : List Int), k ≤ N.pipes.length ∧ v = .int .i64 k ∧ l.length ≤ k ∧ AtOk N node l ∧ AtDn N node l k ∧ Own wr (w.heap.size + 1) 2 1 u l.length (l.map iV) ∧ Bx wr w.heap.size [.slice A N.nodes.length c, .slice B N.pipes.length d] ∧ Below w.heap.size w wr) (fun _ v _ => N.pipes.length - (intOf v).toNat)
  case atStart => exact ⟨0, [], by omega, rfl, by simp, (fun x hx => by simp at hx), (fun q p h => by omega), by simpa using Own.nil _ _ _ _, (bx2 (by first | exact hy0 | go_size) (by first | (with_reducible exact cw0_0) | go_cell_look | (simp [go_sem, hy0, cw0_0, fw0_0, cw0_1, fw0_1]; done) | (simp [go_sem]; done)) (by first | (with_reducible exact fw0_0) | (simp only [World.frozen?_setCell, fw0_0]; done) | (simp [go_sem, hy0, cw0_0, fw0_0, cw0_1, fw0_1]; done) | (simp [go_sem]; done)) (by first | (with_reducible exact cw0_1) | go_cell_look | (simp [go_sem, hy0, cw0_0, fw0_0, cw0_1, fw0_1]; done) | (simp [go_sem]; done)) (by first | (with_reducible exact fw0_1) | (simp only [World.frozen?_setCell, fw0_1]; done) | (simp [go_sem, hy0, cw0_0, fw0_0, cw0_1, fw0_1]; done) | (simp [go_sem]; done))), by (repeat' (first | (with_reducible exact Below.refl _ _) | (with_reducible assumption) | (with_reducible refine Below.alloc ?_ ?_ _) | (with_reducible refine Below.drew ?_) | (with_reducible refine Below.drewN' ?_ _) | (with_reducible refine Below.setCell ?_ ?_ _) | (refine Below.via ?_ (by with_reducible assumption) ?_) | (with_reducible refine Below.via ?_ (Wd.h _) ?_) | go_size))⟩
  case round =>
    obtain ⟨k, l, hk, rfl, hl, hat, hdn, hO, hB, hbw⟩ := hrel
    have HDN := Lib.hid hdn
    clear hdn
    have hbH := Lib.hid hbw
    have HAT := Lib.hid hat
    have HOW := Lib.hid hO
    have HBX := Lib.hid hB
    have hy0 := hB.lt; have cw0_0 := hB.cell 0 rfl; have fw0_0 := hB.frozen 0 rfl; have cw0_1 := hB.cell 1 rfl; have fw0_1 := hB.frozen 1 rfl
    have hyr := hy0
    clear hat hO hB
    by_cases hlt : k < N.pipes.length
    · have g1 : (k : Int) < N.pipes.length := by omega
      have HP := Lib.hid HN.out.pipes
      obtain ⟨x, hx⟩ := get_some hlt; obtain ⟨bx, offx, rfl, hbx, hat⟩ := HP.out.opened (k := k) (by rw [flat_len Pp.len]; omega); have hat' := hat.below hbw hbx; have hybx : bx < wr.heap.size := Nat.lt_of_lt_of_le hbx hbw.size; have hzw := hbw.size; have t0 := hat'.elem0 Pp.len hx rfl; have t1 := hat'.elem Pp.len hx 1 rfl; have t2 := hat'.elem Pp.len hx 2 rfl; have t3 := hat'.elem Pp.len hx 3 rfl; have t4 := hat'.elem Pp.len hx 4 rfl; have HX := Lib.hid hx; have HD := Lib.hid (drop_cons hx); have gx : (k : Int) < _ := Int.ofNat_lt.2 hlt; clear hx hat hat'
      clear hbw
      by_cases h1 : x.f = node ∨ x.t = node
      · have H1 := Lib.hid h1
        rcases h1 with h1 | h1
        · have b1 : (x.f == node) = true := by simpa using h1
          clear h1
          go_wp2_with ((at_builtin; refine wp_app1x _ rfl (.tmp 26) (.tmp 28) 32 rfl (w.heap.size + 1) info_i64 Try.underlying32 rfl (by omega) (by omega) _ _ _ rfl ((HOW.out.alloc _).alloc _) _ 1 1 [iV k] rfl rfl (by intro j u hu; match j, hu with | 0, hu => (simp at hu; subst hu; simp) | j + 1, hu => simp at hu) (by simp [Value.oneCell']) (by omega) (by omega) (by simp; omega) ?_; intro v3 w3 hO3 hb3 hF3))
          have hb4 := ((Below.alloc (Below.refl (w.heap.size + 1) wr) (by omega) _).alloc (by simp; omega) _).trans hb3
          have HB3 := Lib.hid (HBX.out.below hb4 (by omega))
          go_roundw
          case rel => exact ⟨k + 1, l ++ [(k : Int)], by omega, by go_num, by simp; omega, HAT.out.snoc HX.out H1.out, HDN.out.snoc, by simpa using hO3, HB3.out, by have h1 := hbH.out; exact h1.trans (hb4.mono (by omega))⟩
          case measure => simp [intOf]; omega
        · have b2 : (x.t == node) = true := by simpa using h1
          clear h1
          cases b1 : (x.f == node)
          all_goals
            go_wp2_with ((at_builtin; refine wp_app1x _ rfl (.tmp 26) (.tmp 28) 32 rfl (w.heap.size + 1) info_i64 Try.underlying32 rfl (by omega) (by omega) _ _ _ rfl ((HOW.out.alloc _).alloc _) _ 1 1 [iV k] rfl rfl (by intro j u hu; match j, hu with | 0, hu => (simp at hu; subst hu; simp) | j + 1, hu => simp at hu) (by simp [Value.oneCell']) (by omega) (by omega) (by simp; omega) ?_; intro v3 w3 hO3 hb3 hF3))
            have hb4 := ((Below.alloc (Below.refl (w.heap.size + 1) wr) (by omega) _).alloc (by simp; omega) _).trans hb3
            have HB3 := Lib.hid (HBX.out.below hb4 (by omega))
            go_roundw
            case rel => exact ⟨k + 1, l ++ [(k : Int)], by omega, by go_num, by simp; omega, HAT.out.snoc HX.out H1.out, HDN.out.snoc, by simpa using hO3, HB3.out, by have h1 := hbH.out; exact h1.trans (hb4.mono (by omega))⟩
            case measure => simp [intOf]; omega
      · have b1 : (x.f == node) = false := by simpa using fun h => h1 (Or.inl h)
        have b2 : (x.t == node) = false := by simpa using fun h => h1 (Or.inr h)
        have HN1 := Lib.hid h1
        clear h1
        go_wp2
        go_roundw
        case rel => exact ⟨k + 1, l, by omega, by go_num, by omega, HAT.out, HDN.out.skip HX.out HN1.out, HOW.out.alloc _, HBX.out.below (Below.alloc (Below.refl _ wr) (Nat.le_refl _) _) hyr, by have h1 := hbH.out; exact h1.alloc (by omega) _⟩
        case measure => simp [intOf]; omega
    · clear hbw
      have g1 : ¬ (k : Int) < N.pipes.length := by omega
      go_wp2
      go_ret

      exact ⟨_, rfl, l, HAT.out, HDN.out.all hlt, by omega, HOW.out.lowG (by omega), hbH.out⟩
set_option maxRecDepth 100000 in
set_option maxHeartbeats 1000000 in
theorem impl_otherEnd (p : Pp) (node : Int) (tn : Int) (w : World) (h : p.f = node ∨ p.t = node) (ht : p.f + p.t - node = tn) :
    Calls Try.prog 74 #[p.val, .int .i64 node] w fun e w' => e = .returned (.int .i64 tn) ∧ Below w.heap.size w w' := by
  by_cases h1 : p.f = node
  · have b1 : (p.f == node) = true := by simpa using h1
    have HE := Lib.hid (show p.t = tn by omega)
    clear h h1 ht
    go_enter Try.func74, Try.ntmps74
    go_wp2
    go_ret
    exact ⟨ri HE.out, by (repeat' (first | (with_reducible exact Below.refl _ _) | (with_reducible assumption) | (with_reducible refine Below.alloc ?_ ?_ _) | (with_reducible refine Below.drew ?_) | (with_reducible refine Below.drewN' ?_ _) | (with_reducible refine Below.setCell ?_ ?_ _) | (refine Below.via ?_ (by with_reducible assumption) ?_) | (with_reducible refine Below.via ?_ (Wd.h _) ?_) | go_size))⟩
  · have b1 : (p.f == node) = false := by simpa using h1
    have HE := Lib.hid (show p.f = tn by rcases h with h | h <;> omega)
    clear h h1 ht
    go_enter Try.func74, Try.ntmps74
    go_wp2
    go_ret
    exact ⟨ri HE.out, by (repeat' (first | (with_reducible exact Below.refl _ _) | (with_reducible assumption) | (with_reducible refine Below.alloc ?_ ?_ _) | (with_reducible refine Below.drew ?_) | (with_reducible refine Below.drewN' ?_ _) | (with_reducible refine Below.setCell ?_ ?_ _) | (refine Below.via ?_ (by with_reducible assumption) ?_) | (with_reducible refine Below.via ?_ (Wd.h _) ?_) | go_size))⟩
end Go.Proofs.Ytlbidcblpmdgaaa
namespace Go.Proofs.Ytlbidcblpmdgaaa
set_option linter.unusedVariables false
set_option linter.unusedSimpArgs false
open Go.RowKit
/-- the pipes at a node, in memory that the search does not write -/
structure LaI (A5 : Option Addr) (la : List Int) (u : Value) (X g1 g2 : Nat) (wv : World) : Prop where
  rd : Rd wv A5 (la.map iV)
  lt : ∀ b off, A5 = some ⟨b, off, none⟩ → b < wv.heap.size ∧ u.ownBlock ≠ some b ∧ b ≠ X ∧ b ≠ g1 ∧ b ≠ g2
theorem LaI.below {A5 : Option Addr} {la : List Int} {u : Value} {X g1 g2 : Nat} {wv w' : World} (h : LaI A5 la u X g1 g2 wv) (hb : Below wv.heap.size wv w') : LaI A5 la u X g1 g2 w' :=
  ⟨h.rd.below hb, fun b off e => by have := h.lt b off e; exact ⟨Nat.lt_of_lt_of_le this.1 hb.size, this.2⟩⟩
theorem LaI.two {A5 : Option Addr} {la : List Int} {u : Value} {X g1 g2 : Nat} {wv w' : World} (h : LaI A5 la u X g1 g2 wv) (hk : Keep (fun k => k = g1 ∨ k = g2) wv w') : LaI A5 la u X g1 g2 w' :=
  ⟨h.rd.keep hk (fun b off e q => by have := h.lt b off e; omega), fun b off e => by have := h.lt b off e; exact ⟨Nat.lt_of_lt_of_le this.1 hk.size, this.2⟩⟩
theorem LaI.app {A5 : Option Addr} {la : List Int} {u v' : Value} {X g1 g2 : Nat} {wv w' : World} {ob : Obj} (h : LaI A5 la u X g1 g2 wv) (hf : Far (wv.alloc ob) w' u v') (hz : wv.heap.size < w'.heap.size) : LaI A5 la v' X g1 g2 (w'.setCell ⟨X, 0, none⟩ v') := by
  have ha := h.below (Below.alloc (Below.refl _ wv) (Nat.le_refl _) ob)
  refine ⟨fun hne => ?_, fun b off e => ?_⟩
  · obtain ⟨b, off, e, hb, hat⟩ := ha.rd hne
    obtain ⟨l1, l2, l3, l4, l5⟩ := ha.lt b off e
    refine ⟨b, off, e, ?_, fun j v ej => ?_⟩
    · have := (h.lt b off e).1
      simp; omega
    · rw [World.cell?_setCell_other _ _ _ _ (by intro q; injection q; omega)]
      exact (hf.cell hb l2).trans (hat j v ej)
  · obtain ⟨l1, l2, l3, l4, l5⟩ := h.lt b off e
    refine ⟨by simp; omega, fun q => ?_, l3, l4, l5⟩
    rcases hf.lie b q with q | q
    · exact l2 q
    · simp at q; omega
set_option maxRecDepth 100000 in
set_option maxHeartbeats 8000000 in
theorem impl_searchFrom (A B : Option Addr) (n c m d : Nat) (N : Net) (node : Nat) (w : World) (hN : NetAt w A B N) (hn : n = N.nodes.length) (hm : m = N.pipes.length) (hO : N.Ok) (hnode : node < N.nodes.length) :
    Calls Try.prog 62 #[netV A B n c m d, .int .i64 (node : Int)] w fun e w' => ∃ (A1 A2 A3 : Option Addr) (c1 c2 c3 n2 n3 : Nat) (O : List Int), e = .returned (.agg #[.slice A1 O.length c1, .slice A2 n2 c2, .slice A3 n3 c3]) ∧ O.length ≤ N.nodes.length ∧ (∀ y ∈ O, 0 ≤ y ∧ y < N.nodes.length) ∧ SrR N node O ∧ Rd w' A1 (O.map iV) ∧ (∀ b off, A1 = some ⟨b, off, none⟩ → w.heap.size ≤ b) ∧ Below w.heap.size w w' := by
  subst hn hm
  have HN := Lib.hid hN
  have HO := Lib.hid hO
  have hln := hN.ln
  have hlp := hN.lp
  have hp1 := hO.p1
  have hn2 := hO.n2
  clear hN hO
  have hmk := make_i64 N.nodes.length (by omega)
  go_enter Try.func62, Try.ntmps62
  go_wp2_with fail
  generalize hW : World.alloc (World.alloc w _) _ = w1
  have HB0 := Lib.hid (show Bx w1 w.heap.size [.slice A N.nodes.length c, .slice B N.pipes.length d] by rw [← hW]; exact bx2 (by simp; omega) (by simp) (by simp) (by simp) (by simp))
  have HB1 := Lib.hid (show Bx w1 (w.heap.size + 1) [.slice none 0 0, .slice none 0 0, .slice none 0 0] by rw [← hW]; exact bx3 (by simp) (by simp) (by simp) (by simp) (by simp) (by simp) (by simp))
  have HBW := Lib.hid (show Below w.heap.size w w1 by rw [← hW]; (repeat' (first | (with_reducible exact Below.refl _ _) | (with_reducible assumption) | (with_reducible refine Below.alloc ?_ ?_ _) | (with_reducible refine Below.drew ?_) | (with_reducible refine Below.drewN' ?_ _) | (with_reducible refine Below.setCell ?_ ?_ _) | (refine Below.via ?_ (by with_reducible assumption) ?_) | (with_reducible refine Below.via ?_ (Wd.h _) ?_) | go_size)))
  have hz1 : w1.heap.size = w.heap.size + 2 := by rw [← hW]; simp
  clear hW
  refine wp_region_tb (R := Rz) [some 12, some 13, some 14, some 15, some 16, some 17, some 18, some 19, some 20, some 21, some 22, some 5, none] _ (by intro u; simp only [frs, Act.put, List.setIfInBounds_toArray, List.set_cons_zero, List.set_cons_succ, Nat.reduceAdd]; exact rfl) (fun ρ j => ([.int .i64 node, .slice (ρ.a 0) 1 1, .pointer (some ⟨w.heap.size, 0, none⟩), .slice A N.nodes.length c, .int .i64 N.nodes.length, .slice (ρ.a 1) N.nodes.length N.nodes.length, .pointer (some ⟨w.heap.size, 0, none⟩), .slice A N.nodes.length c, .int .i64 N.nodes.length, .slice (ρ.a 2) N.nodes.length N.nodes.length, .agg #[.slice (ρ.a 0) 1 1, .slice (ρ.a 1) N.nodes.length N.nodes.length, .slice (ρ.a 2) N.nodes.length N.nodes.length], .pointer (some ⟨ρ.b, 0, none⟩), undef] : List Value).getD j undef) (WS1 w1 node N.nodes.length) (by kernel_rfl) (by kernel_rfl) Rz.zero (WS1.start (Below.drew (Below.refl _ _))) ?_ ?_
  · intro ii hii L ρ u wx hl hp hc hu hn hW
    have hii : ii < 13 := hii
    have HNo := Lib.hid hn
    clear hn
    have hbl := hW.wb.bl
    have z0 := HB0.out.below hbl (by omega)
    have z00 := z0.cell 0 rfl
    have z01 := z0.cell 1 rfl
    have hii : ii = 0 ∨ ii = 1 ∨ ii = 2 ∨ ii = 3 ∨ ii = 4 ∨ ii = 5 ∨ ii = 6 ∨ ii = 7 ∨ ii = 8 ∨ ii = 9 ∨ ii = 10 ∨ ii = 11 ∨ ii = 12 := by omega
    rcases hii with rfl | rfl | rfl | rfl | rfl | rfl | rfl | rfl | rfl | rfl | rfl | rfl | rfl
    · refine wpOp_go (E := True) rfl rfl (fun K' hK => ?_)
      go_simp
      refine hK.out _ _ ⟨ρ, (by simp only [put]; rfl), fun _ _ => rfl, hW.pure rfl⟩
    · have e0 : u 0 = .int .i64 node := hu 0 (all_of hp (by kernel_rfl))
      have nks : L 12 = false := no_later hc hl (by kernel_rfl)
      refine wpOp_go (E := True) rfl rfl (fun K' hK => ?_)
      go_simp
      have ho5 := World.ownsRow_lit (base := wx.heap.size) (e := 2) (size := 1) wx #[iV node] 1 (by simp) (by simp [maxLen]) (by simp)
      generalize hW5 : World.alloc wx _ = w5 at *
      have hb5 : Below wx.heap.size wx w5 := by rw [← hW5]; (repeat' (first | (with_reducible exact Below.refl _ _) | (with_reducible assumption) | (with_reducible refine Below.alloc ?_ ?_ _) | (with_reducible refine Below.drew ?_) | (with_reducible refine Below.drewN' ?_ _) | (with_reducible refine Below.setCell ?_ ?_ _) | (refine Below.via ?_ (by with_reducible assumption) ?_) | (with_reducible refine Below.via ?_ (Wd.h _) ?_) | go_size))
      clear hW5
      refine hK.out _ _ ⟨ρ.list 0 (some ⟨wx.heap.size, 0, none⟩) 1, (by simp only [put, e0]; rfl), fun j hj => by
          have n10 : L 10 = false := no_later hc hl (by kernel_rfl)
          have n12 : L 12 = false := no_later hc n10 (by kernel_rfl)
          match j, hj with
          | 0, _ => rfl
          | 1, hj => rw [hl] at hj; cases hj
          | 2, _ => rfl
          | 3, _ => rfl
          | 4, _ => rfl
          | 5, _ => rfl
          | 6, _ => rfl
          | 7, _ => rfl
          | 8, _ => rfl
          | 9, _ => rfl
          | 10, hj => rw [n10] at hj; cases hj
          | 11, _ => rfl
          | 12, hj => rw [n12] at hj; cases hj
          | _ + 13, _ => rfl, hW.l1 nks hb5 ho5⟩
    · refine wpOp_go (E := True) rfl rfl (fun K' hK => ?_)
      go_simp
      refine hK.out _ _ ⟨ρ, (by simp only [put]; rfl), fun _ _ => rfl, hW.pure rfl⟩
    · have e2 : u 2 = .pointer (some ⟨w.heap.size, 0, none⟩) := hu 2 (all_of hp (by kernel_rfl))
      refine wpOp_go (E := True) rfl rfl (fun K' hK => ?_)
      go_simp
      refine hK.out _ _ ⟨ρ, (by simp only [put, e2]; rfl), fun _ _ => rfl, hW.pure rfl⟩
    · have e3 : u 3 = .slice A N.nodes.length c := hu 3 (all_of hp (by kernel_rfl))
      refine wpOp_go (E := True) rfl rfl (fun K' hK => ?_)
      go_simp
      refine hK.out _ _ ⟨ρ, (by simp only [put, e3]; rfl), fun _ _ => rfl, hW.pure rfl⟩
    · have e4 : u 4 = .int .i64 N.nodes.length := hu 4 (all_of hp (by kernel_rfl))
      have nks : L 12 = false := no_later hc hl (by kernel_rfl)
      refine wpOp_go (E := True) rfl rfl (fun K' hK => ?_)
      go_simp
      have ho5 := Arr.madeI wx N.nodes.length 2
      generalize hW5 : World.alloc wx _ = w5 at *
      have hb5 : Below wx.heap.size wx w5 := by rw [← hW5]; (repeat' (first | (with_reducible exact Below.refl _ _) | (with_reducible assumption) | (with_reducible refine Below.alloc ?_ ?_ _) | (with_reducible refine Below.drew ?_) | (with_reducible refine Below.drewN' ?_ _) | (with_reducible refine Below.setCell ?_ ?_ _) | (refine Below.via ?_ (by with_reducible assumption) ?_) | (with_reducible refine Below.via ?_ (Wd.h _) ?_) | go_size))
      clear hW5
      refine hK.out _ _ ⟨ρ.list 1 (some ⟨wx.heap.size, 0, none⟩) N.nodes.length, (by simp only [put, e4]; rfl), fun j hj => by
          have n10 : L 10 = false := no_later hc hl (by kernel_rfl)
          have n12 : L 12 = false := no_later hc n10 (by kernel_rfl)
          match j, hj with
          | 0, _ => rfl
          | 1, _ => rfl
          | 2, _ => rfl
          | 3, _ => rfl
          | 4, _ => rfl
          | 5, hj => rw [hl] at hj; cases hj
          | 6, _ => rfl
          | 7, _ => rfl
          | 8, _ => rfl
          | 9, _ => rfl
          | 10, hj => rw [n10] at hj; cases hj
          | 11, _ => rfl
          | 12, hj => rw [n12] at hj; cases hj
          | _ + 13, _ => rfl, hW.l5 nks hb5 ho5⟩
    · refine wpOp_go (E := True) rfl rfl (fun K' hK => ?_)
      go_simp
      refine hK.out _ _ ⟨ρ, (by simp only [put]; rfl), fun _ _ => rfl, hW.pure rfl⟩
    · have e6 : u 6 = .pointer (some ⟨w.heap.size, 0, none⟩) := hu 6 (all_of hp (by kernel_rfl))
      refine wpOp_go (E := True) rfl rfl (fun K' hK => ?_)
      go_simp
      refine hK.out _ _ ⟨ρ, (by simp only [put, e6]; rfl), fun _ _ => rfl, hW.pure rfl⟩
    · have e7 : u 7 = .slice A N.nodes.length c := hu 7 (all_of hp (by kernel_rfl))
      refine wpOp_go (E := True) rfl rfl (fun K' hK => ?_)
      go_simp
      refine hK.out _ _ ⟨ρ, (by simp only [put, e7]; rfl), fun _ _ => rfl, hW.pure rfl⟩
    · have e8 : u 8 = .int .i64 N.nodes.length := hu 8 (all_of hp (by kernel_rfl))
      have nks : L 12 = false := no_later hc hl (by kernel_rfl)
      refine wpOp_go (E := True) rfl rfl (fun K' hK => ?_)
      go_simp
      have ho5 := Arr.madeI wx N.nodes.length 2
      generalize hW5 : World.alloc wx _ = w5 at *
      have hb5 : Below wx.heap.size wx w5 := by rw [← hW5]; (repeat' (first | (with_reducible exact Below.refl _ _) | (with_reducible assumption) | (with_reducible refine Below.alloc ?_ ?_ _) | (with_reducible refine Below.drew ?_) | (with_reducible refine Below.drewN' ?_ _) | (with_reducible refine Below.setCell ?_ ?_ _) | (refine Below.via ?_ (by with_reducible assumption) ?_) | (with_reducible refine Below.via ?_ (Wd.h _) ?_) | go_size))
      clear hW5
      refine hK.out _ _ ⟨ρ.list 2 (some ⟨wx.heap.size, 0, none⟩) N.nodes.length, (by simp only [put, e8]; rfl), fun j hj => by
          have n10 : L 10 = false := no_later hc hl (by kernel_rfl)
          have n12 : L 12 = false := no_later hc n10 (by kernel_rfl)
          match j, hj with
          | 0, _ => rfl
          | 1, _ => rfl
          | 2, _ => rfl
          | 3, _ => rfl
          | 4, _ => rfl
          | 5, _ => rfl
          | 6, _ => rfl
          | 7, _ => rfl
          | 8, _ => rfl
          | 9, hj => rw [hl] at hj; cases hj
          | 10, hj => rw [n10] at hj; cases hj
          | 11, _ => rfl
          | 12, hj => rw [n12] at hj; cases hj
          | _ + 13, _ => rfl, hW.l9 nks hb5 ho5⟩
    · have e1 : u 1 = .slice (ρ.a 0) 1 1 := hu 1 (all_of hp (by kernel_rfl))
      have e5 : u 5 = .slice (ρ.a 1) N.nodes.length N.nodes.length := hu 5 (all_of hp (by kernel_rfl))
      have e9 : u 9 = .slice (ρ.a 2) N.nodes.length N.nodes.length := hu 9 (all_of hp (by kernel_rfl))
      refine wpOp_go (E := True) rfl rfl (fun K' hK => ?_)
      go_simp
      refine hK.out _ _ ⟨ρ, (by simp only [put, e1, e5, e9]; rfl), fun _ _ => rfl, hW.pure rfl⟩
    · have nks : L 12 = false := no_later hc hl (by kernel_rfl)
      refine wpOp_go (E := True) rfl rfl (fun K' hK => ?_)
      go_simp
      generalize hW5 : World.alloc wx _ = w5
      have hb5 : Below wx.heap.size wx w5 := by rw [← hW5]; (repeat' (first | (with_reducible exact Below.refl _ _) | (with_reducible assumption) | (with_reducible refine Below.alloc ?_ ?_ _) | (with_reducible refine Below.drew ?_) | (with_reducible refine Below.drewN' ?_ _) | (with_reducible refine Below.setCell ?_ ?_ _) | (refine Below.via ?_ (by with_reducible assumption) ?_) | (with_reducible refine Below.via ?_ (Wd.h _) ?_) | go_size))
      have hx5 : Bx w5 wx.heap.size [.slice none 0 0, .slice none 0 0, .slice none 0 0] := by rw [← hW5]; exact bx3 (by simp) (by simp) (by simp) (by simp) (by simp) (by simp) (by simp)
      clear hW5
      refine hK.out _ _ ⟨ρ.box wx.heap.size, (by simp only [put]; rfl), fun j hj => by
          have n12 : L 12 = false := no_later hc hl (by kernel_rfl)
          match j, hj with
          | 0, _ => rfl
          | 1, _ => rfl
          | 2, _ => rfl
          | 3, _ => rfl
          | 4, _ => rfl
          | 5, _ => rfl
          | 6, _ => rfl
          | 7, _ => rfl
          | 8, _ => rfl
          | 9, _ => rfl
          | 10, _ => rfl
          | 11, hj => rw [hl] at hj; cases hj
          | 12, hj => rw [n12] at hj; cases hj
          | _ + 13, _ => rfl, hW.l11 nks hb5 hx5⟩
    · have e11 : u 11 = .pointer (some ⟨ρ.b, 0, none⟩) := hu 11 (all_of hp (by kernel_rfl))
      have e10 : u 10 = .agg #[.slice (ρ.a 0) 1 1, .slice (ρ.a 1) N.nodes.length N.nodes.length, .slice (ρ.a 2) N.nodes.length N.nodes.length] := hu 10 (all_of hp (by kernel_rfl))
      have hL11 := all_of hp (show (before _ 12).contains 11 = true by kernel_rfl)
      have hq := hW.wb.b1 hL11 hl
      have hq0 := hq.cell 0 rfl
      have hq1 := hq.cell 1 rfl
      have hq2 := hq.cell 2 rfl
      have hf0 := hq.frozen 0 rfl
      have hf1 := hq.frozen 1 rfl
      have hf2 := hq.frozen 2 rfl
      refine wpOp_go (E := True) rfl rfl (fun K' hK => ?_)
      go_simp
      refine hK.out _ _ ⟨ρ, (by simp only [put, e11, e10]; rfl), fun _ _ => rfl, hW.l12 hL11 (keep3 _ _ _) (bx_fill3 hq _ _ _)⟩
  · intro L ρ u wx hall hu hW
    have e11 : u 11 = .pointer (some ⟨ρ.b, 0, none⟩) := hu 11 (by show 11 < 13; omega)
    rw [e11]
    have hL (i : Nat) (hi : i < 13) : L i = true := hall i hi
    obtain ⟨ga, gb, gc⟩ := hW.wb.b0 (hL 11 (by omega))
    have hbx := hW.wb.b2 (hL 12 (by omega))
    have ho := hW.own (hL 1 (by omega))
    obtain ⟨g1, hg1, hg1b, hA1⟩ := (hW.wb.md 5 1 (List.replicate N.nodes.length 0) (by simp) (hL 5 (by omega))).2.1 (by simp; omega)
    obtain ⟨g2, hg2, hg2b, hA2⟩ := (hW.wb.md 9 2 (List.replicate N.nodes.length 0) (by simp) (hL 9 (by omega))).2.1 (by simp; omega)
    have hds := hW.wb.ds 5 1 (List.replicate N.nodes.length 0) 9 2 (List.replicate N.nodes.length 0) (by simp) (by simp) (hL 5 (by omega)) (hL 9 (by omega)) (by omega)
    have hd1 := hW.wb.ds 1 0 [(node : Int)] 5 1 (List.replicate N.nodes.length 0) (by simp) (by simp) (hL 1 (by omega)) (hL 5 (by omega)) (by omega)
    have hd2 := hW.wb.ds 1 0 [(node : Int)] 9 2 (List.replicate N.nodes.length 0) (by simp) (by simp) (hL 1 (by omega)) (hL 9 (by omega)) (by omega)
    have hx0 := gc 1 0 [(node : Int)] (by simp) (hL 1 (by omega))
    have hx1 := gc 5 1 (List.replicate N.nodes.length 0) (by simp) (hL 5 (by omega))
    have hx2 := gc 9 2 (List.replicate N.nodes.length 0) (by simp) (hL 9 (by omega))
    (try dsimp only at hbx)
    rw [hg1] at hbx hds hd1 hx1
    rw [hg2] at hbx hds hd2 hx2
    simp only [onA_some] at hds hd1 hd2 hx1 hx2
    have HI := Lib.hid (show SfB w A B c d N ρ.b g1 g2 (.slice (ρ.a 0) 1 1) (List.replicate N.nodes.length 0) (List.replicate N.nodes.length 0) [(node : Int)] wx from
      ⟨by simp, by simp, by simpa using ho.lowG (by omega), by simpa using hA1, by simpa using hA2, hbx, HB0.out.below hW.wb.bl HB0.out.lt, HB1.out.below hW.wb.bl HB1.out.lt, HBW.out.trans (hW.wb.bl.mono (by omega)), by omega, by omega, by omega, hx1, hx2, fun e => hds g1 rfl e, fun e => hx0 (own_on ho e), fun e => hd1 g1 (own_on ho e) rfl, fun e => hd2 g2 (own_on ho e) rfl⟩)
    clear hu hall hW e11 hL gc hbx ho hA1 hA2 hds hd1 hd2 hx0 hx1 hx2 hg1 hg2 hmk HB0 HB1 HBW hg1b hg2b ga gb
    generalize ρ.b = X at *
    generalize ρ.a 0 = a0 at *
    have hB := HI.out.b0
    have hy0 := hB.lt; have cw0_0 := hB.cell 0 rfl; have fw0_0 := hB.frozen 0 rfl; have cw0_1 := hB.cell 1 rfl; have fw0_1 := hB.frozen 1 rfl
    clear hB
    go_wp2_with fail
    go_loopw [26] (fun v wv => ∃ k : Nat, k ≤ N.nodes.length ∧ v = .int .i64 k ∧ SfB w A B c d N X g1 g2 (.slice a0 1 1) (filM N.nodes.length k) (filM N.nodes.length k) [(node : Int)] wv) (fun v _ => N.nodes.length - (intOf v).toNat)
    case atStart => exact ⟨0, by omega, rfl, by simpa [filM] using HI.out⟩
    case round =>
      clear HI cw0_0 cw0_1 fw0_0 fw0_1 hy0
      obtain ⟨k, hk, rfl, hI⟩ := hrel
      have HK := Lib.hid hI
      have hd3 := hI.d3
      have hd1 := hI.d1
      have hd2 := hI.d2
      clear hI
      by_cases hlt : k < N.nodes.length
      · have g1' : (k : Int) < N.nodes.length := by omega
        obtain ⟨y, hy⟩ := get_some (l := filM N.nodes.length k) (k := k) (by rw [filM_len (by omega)]; exact hlt)
        have HY := Lib.hid hy
        clear hy
        go_wp2_with fail
        refine wp_region_tb (R := Unit) [some 29, some 30, some 31, some 32, some 33, some 34, some 35, none, some 36, none] _ (by intro u; simp only [frs, Act.put, List.setIfInBounds_toArray, List.set_cons_zero, List.set_cons_succ, Nat.reduceAdd]; exact rfl) (fun ρ j => ([.pointer (some ⟨X, 1, none⟩), .slice (some ⟨g1, 0, none⟩) N.nodes.length N.nodes.length, .int .i64 k, .pointer (some ⟨X, 2, none⟩), .slice (some ⟨g2, 0, none⟩) N.nodes.length N.nodes.length, .int .i64 k, .pointer (some ⟨g1, k, none⟩), undef, .pointer (some ⟨g2, k, none⟩), undef] : List Value).getD j undef) (WS2 7 9 g1 g2 N.nodes.length ((filM N.nodes.length k).map iV) ((filM N.nodes.length (k + 1)).map iV) ((filM N.nodes.length k).map iV) ((filM N.nodes.length (k + 1)).map iV) wr) (by kernel_rfl) (by kernel_rfl) () (WS2.start (Keep.drew (Keep.refl _ _)) HK.out.a1.drew HK.out.a2.drew) ?_ ?_
        · intro ii hii L ρ u wx hl hp hc hu hn hW
          have hii : ii < 10 := hii
          have HNo := Lib.hid hn
          clear hn
          have hbX := HK.out.bX.keep hW.kp (by omega)
          have z1 := hbX.cell 1 rfl
          have z2 := hbX.cell 2 rfl
          have hii : ii = 0 ∨ ii = 1 ∨ ii = 2 ∨ ii = 3 ∨ ii = 4 ∨ ii = 5 ∨ ii = 6 ∨ ii = 7 ∨ ii = 8 ∨ ii = 9 := by omega
          rcases hii with rfl | rfl | rfl | rfl | rfl | rfl | rfl | rfl | rfl | rfl
          · refine wpOp_go (E := True) rfl rfl (fun K' hK => ?_)
            go_simp
            refine hK.out _ _ ⟨ρ, (by simp only [put]; rfl), fun _ _ => rfl, hW.pure (by omega) (by omega)⟩
          · have e0 : u 0 = .pointer (some ⟨X, 1, none⟩) := hu 0 (all_of hp (by kernel_rfl))
            refine wpOp_go (E := True) rfl rfl (fun K' hK => ?_)
            go_simp
            refine hK.out _ _ ⟨ρ, (by simp only [put, e0]; rfl), fun _ _ => rfl, hW.pure (by omega) (by omega)⟩
          · refine wpOp_go (E := True) rfl rfl (fun K' hK => ?_)
            go_simp
            refine hK.out _ _ ⟨ρ, (by simp only [put]; rfl), fun _ _ => rfl, hW.pure (by omega) (by omega)⟩
          · refine wpOp_go (E := True) rfl rfl (fun K' hK => ?_)
            go_simp
            refine hK.out _ _ ⟨ρ, (by simp only [put]; rfl), fun _ _ => rfl, hW.pure (by omega) (by omega)⟩
          · have e3 : u 3 = .pointer (some ⟨X, 2, none⟩) := hu 3 (all_of hp (by kernel_rfl))
            refine wpOp_go (E := True) rfl rfl (fun K' hK => ?_)
            go_simp
            refine hK.out _ _ ⟨ρ, (by simp only [put, e3]; rfl), fun _ _ => rfl, hW.pure (by omega) (by omega)⟩
          · refine wpOp_go (E := True) rfl rfl (fun K' hK => ?_)
            go_simp
            refine hK.out _ _ ⟨ρ, (by simp only [put]; rfl), fun _ _ => rfl, hW.pure (by omega) (by omega)⟩
          · have e1 : u 1 = .slice (some ⟨g1, 0, none⟩) N.nodes.length N.nodes.length := hu 1 (all_of hp (by kernel_rfl))
            have e2 : u 2 = .int .i64 k := hu 2 (all_of hp (by kernel_rfl))
            refine wpOp_go (E := True) rfl rfl (fun K' hK => ?_)
            go_simp
            refine hK.out _ _ ⟨ρ, (by simp only [put, e1, e2]; rfl), fun _ _ => rfl, hW.pure (by omega) (by omega)⟩
          · have e6 : u 6 = .pointer (some ⟨g1, k, none⟩) := hu 6 (all_of hp (by kernel_rfl))
            have s0 := ints_cell (hW.a0 hl) HY.out
            have s1 := (hW.a0 hl).free hlt
            refine wpOp_go (E := True) rfl rfl (fun K' hK => ?_)
            go_simp
            refine hK.out _ _ ⟨ρ, (by simp only [put, e6]; rfl), fun _ _ => rfl, hW.st1 hl (by omega) hd3 hlt (by rw [← filM_set hlt, map_set_iV])⟩
          · have e4 : u 4 = .slice (some ⟨g2, 0, none⟩) N.nodes.length N.nodes.length := hu 4 (all_of hp (by kernel_rfl))
            have e5 : u 5 = .int .i64 k := hu 5 (all_of hp (by kernel_rfl))
            refine wpOp_go (E := True) rfl rfl (fun K' hK => ?_)
            go_simp
            refine hK.out _ _ ⟨ρ, (by simp only [put, e4, e5]; rfl), fun _ _ => rfl, hW.pure (by omega) (by omega)⟩
          · have e8 : u 8 = .pointer (some ⟨g2, k, none⟩) := hu 8 (all_of hp (by kernel_rfl))
            have s0 := ints_cell (hW.c0 hl) HY.out
            have s1 := (hW.c0 hl).free hlt
            refine wpOp_go (E := True) rfl rfl (fun K' hK => ?_)
            go_simp
            refine hK.out _ _ ⟨ρ, (by simp only [put, e8]; rfl), fun _ _ => rfl, hW.st2 hl (by omega) hd3 hlt (by rw [← filM_set hlt, map_set_iV])⟩
        · intro L ρ u wx hall hu hW
          have HK2 := Lib.hid (HK.out.two hW.kp (hW.a1 (hall 7 (by show 7 < 10; omega))) (hW.c1 (hall 9 (by show 9 < 10; omega))) (filM_len (by omega)) (filM_len (by omega)))
          clear hu hall hW HK
          go_wp2_with fail
          go_roundw
          case rel => exact ⟨k + 1, by omega, by go_num, HK2.out⟩
          case measure => simp [intOf]; omega
      · obtain rfl : k = N.nodes.length := by omega
        have g1' : ¬ (N.nodes.length : Int) < N.nodes.length := by omega
        have g2' : (node : Int) < N.nodes.length := by omega
        have s0 := ints_cell HK.out.a1 (k := node) (n := -1) (by simp [filM, hnode])
        have s1 := HK.out.a1.free (j := node) hnode
        have hX := HK.out.bX
        have hy9 := hX.lt; have cw9_0 := hX.cell 0 rfl; have fw9_0 := hX.frozen 0 rfl; have cw9_1 := hX.cell 1 rfl; have fw9_1 := hX.frozen 1 rfl; have cw9_2 := hX.cell 2 rfl; have fw9_2 := hX.frozen 2 rfl
        have e1 : filM N.nodes.length N.nodes.length = List.replicate N.nodes.length (-1) := by simp [filM]
        have HS := Lib.hid (show SfB w A B c d N X g1 g2 (.slice a0 1 1) ((List.replicate N.nodes.length (-1)).set node 0) (List.replicate N.nodes.length (-1)) [(node : Int)] (wr.setCell ⟨g1, node, none⟩ (.int .i64 0)) by
          have h := HK.out
          rw [e1] at h
          refine h.two ((Keep.refl (fun k => k = g1 ∨ k = g2) wr).setCell (p := ⟨g1, node, none⟩) (.inl rfl) _) ?_ (h.a2.far (fun e => hd3 e.symm) _) (by simp) (by simp)
          rw [map_set_iV]; exact h.a1.setAt hnode _)
        have HP := Lib.hid (show SfP N ((List.replicate N.nodes.length (-1)).set node 0) [(node : Int)] by
          refine ⟨fun y hy => ?_, ?_, fun y hy => by have := List.mem_singleton.1 hy; omega⟩
          · rcases List.mem_or_eq_of_mem_set hy with hy | hy
            · have := List.eq_of_mem_replicate hy; simp only [List.length_singleton]; omega
            · simp only [List.length_singleton]; omega
          · rw [visS_set _ _ (by omega), visS_rep, cnt_set (by simp [hnode])]; simp [List.count_replicate])
        have HR := Lib.hid (show Sr N node (visS ((List.replicate N.nodes.length (-1)).set node 0)) [(node : Int)] 0 by rw [visS_set _ _ (by omega), visS_rep]; exact Sr.start)
        clear HK hX e1
        go_wp2_with fail
        revert HS
        generalize World.setCell wr _ _ = w2
        intro HS
        clear s0 s1 cw9_0 cw9_1 cw9_2 fw9_0 fw9_1 fw9_2 hy9
        go_loopw [7] (fun t wv => ∃ (k : Nat) (u : Value) (D E O : List Int), t = .int .i64 k ∧ k ≤ O.length ∧ SfB w A B c d N X g1 g2 u D E O wv ∧ SfP N D O ∧ Sr N node (visS D) O k) (fun t _ => N.nodes.length - (intOf t).toNat)
        case atStart => exact ⟨0, _, _, _, _, rfl, by simp, HS.out, HP.out, HR.out⟩
        case round =>
          clear HS HP HR
          obtain ⟨k, u, D, E, O, rfl, hk, hI, hP, hR⟩ := hrel
          have HK := Lib.hid hI
          have HP := Lib.hid hP
          have HR := Lib.hid hR
          have hle := hP.le hI.dl
          have hsz := hI.sz
          have hX := hI.bX
          have hB := hI.b0
          clear hI hP hR
          by_cases hlt : k < O.length
          · obtain ⟨x, hx⟩ := get_some hlt
            obtain ⟨x0, x1⟩ := HP.out.ob x (List.mem_of_getElem? hx)
            obtain ⟨xn, rfl⟩ : ∃ xn : Nat, x = xn := ⟨x.toNat, by omega⟩
            obtain ⟨g, cap, hu9, hgb, hcap, harr⟩ := HK.out.o.arr (by omega)
            subst hu9
            have s0 := ints_cell harr hx
            have HXk := Lib.hid hx
            have g1' : (k : Int) < O.length := by omega
            have hy9 := hX.lt; have cw9_0 := hX.cell 0 rfl; have fw9_0 := hX.frozen 0 rfl; have cw9_1 := hX.cell 1 rfl; have fw9_1 := hX.frozen 1 rfl; have cw9_2 := hX.cell 2 rfl; have fw9_2 := hX.frozen 2 rfl
            have hy0 := hB.lt; have cw0_0 := hB.cell 0 rfl; have fw0_0 := hB.frozen 0 rfl; have cw0_1 := hB.cell 1 rfl; have fw0_1 := hB.frozen 1 rfl
            clear harr hx hX hB
            go_wp2_with fail
            refine (impl_pipesAt A B _ c _ d N xn _ (HN.out.below HK.out.bl) rfl rfl).mono ?_
            rintro e w5 ⟨v5, la, rfl, hat5, hal5, hl5, hO5, hb5⟩
            obtain ⟨A5, c5, rfl, hc5, hr5, hl5b⟩ := hO5.val
            have HAT := Lib.hid hat5
            have HAL := Lib.hid hal5
            have HK5 := Lib.hid (HK.out.below hb5)
            have HLA := Lib.hid (show LaI A5 la (.slice (some ⟨g, 0, none⟩) O.length cap) X g1 g2 w5 from ⟨hr5, fun b off e => by
              have h1 := hl5b b off e
              have h2 := HK.out.bX.lt
              have h3 := HK.out.a1.lt
              have h4 := HK.out.a2.lt
              have h5 := World.ownsRow.lt hO5 b (by rw [e]; have := hO5.2; rcases this with ⟨h0, _⟩ | ⟨g', cap', cur, hv, _⟩ <;> (first | (rw [e] at h0; cases h0) | (rw [e] at hv; injection hv with hv; injection hv with hv; injection hv with q1 q2 q3; subst q2; rfl)))
              refine ⟨by omega, fun q => ?_, by omega, by omega, by omega⟩
              have h6 := World.ownsRow.lt HK.out.o b q
              omega⟩)
            clear hat5 hal5 hO5 hb5 hr5 hl5b HK s0 cw9_0 cw9_1 cw9_2 fw9_0 fw9_1 fw9_2 hy9 cw0_0 cw0_1 fw0_0 fw0_1 hy0 hgb hcap
            go_wp2_with fail
            go_loopw [58] (fun t wv => ∃ (i : Nat) (u : Value) (D E O' : List Int), t = .int .i64 i ∧ i ≤ la.length ∧ O'[k]? = some (xn : Int) ∧ SfB w A B c d N X g1 g2 u D E O' wv ∧ SfP N D O' ∧ Sr N node (visS D) O' k ∧ SrI N xn la O' i ∧ LaI A5 la u X g1 g2 wv) (fun t _ => la.length - (intOf t).toNat)
            case atStart => exact ⟨0, _, _, _, _, rfl, by omega, HXk.out, HK5.out, HP.out, HR.out, SrI.start, HLA.out⟩
            case round =>
              clear HXk HK5 HP HR HLA hlt hle hk g1'
              obtain ⟨i, u, D, E, O, rfl, hi, hx, hI, hP, hR, hS, hLa⟩ := hrel
              have hk := (List.getElem?_eq_some_iff.1 hx).1
              have HXk := Lib.hid hx
              have HK := Lib.hid hI
              have HP := Lib.hid hP
              have HR := Lib.hid hR
              have HSI := Lib.hid hS
              have HLA := Lib.hid hLa
              have hle := hP.le hI.dl
              have hsz := hI.sz
              have hX := hI.bX
              have hB := hI.b0
              clear hI hP hR hx hS hLa
              by_cases hlt : i < la.length
              · obtain ⟨y, hy⟩ := get_some hlt
                obtain ⟨q, p, rfl, hq, hft⟩ := HAT.out y (List.mem_of_getElem? hy)
                obtain ⟨p1, p2, p3, p4⟩ := pipe_ftG HO.out (List.mem_of_getElem? hq)
                have hqlt : q < N.pipes.length := (List.getElem?_eq_some_iff.1 hq).1
                obtain ⟨tn, htn⟩ : ∃ tn : Nat, p.f + p.t - xn = tn := ⟨(p.f + p.t - xn).toNat, by rcases hft with h | h <;> omega⟩
                have htl : tn < N.nodes.length := by rcases hft with h | h <;> omega
                obtain ⟨b, off, hA5, hb, hat⟩ := HLA.out.rd.opened (k := i) (by simpa using hlt)
                have t0 := ints_at hat hy
                obtain ⟨b', off', rfl, hb', hat'⟩ := HN.out.pipes.opened (k := q) (by rw [flat_len Pp.len]; omega)
                have hbl := HK.out.bl
                have r0 := (hbl.cell (p := ⟨b', _, none⟩) hb').trans (hat'.elem0 Pp.len hq rfl)
                have r1 := (hbl.cell (p := ⟨b', _, none⟩) hb').trans (hat'.elem Pp.len hq 1 rfl)
                have r2 := (hbl.cell (p := ⟨b', _, none⟩) hb').trans (hat'.elem Pp.len hq 2 rfl)
                have r3 := (hbl.cell (p := ⟨b', _, none⟩) hb').trans (hat'.elem Pp.len hq 3 rfl)
                have r4 := (hbl.cell (p := ⟨b', _, none⟩) hb').trans (hat'.elem Pp.len hq 4 rfl)
                have HY := Lib.hid hy
                have HQ := Lib.hid hq
                have HTN := Lib.hid htn
                have HFT := Lib.hid hft
                have g1' : (i : Int) < la.length := by omega
                have g2' : (q : Int) < N.pipes.length := by omega
                have g3 : (tn : Int) < N.nodes.length := by omega
                have hy9 := hX.lt; have cw9_0 := hX.cell 0 rfl; have fw9_0 := hX.frozen 0 rfl; have cw9_1 := hX.cell 1 rfl; have fw9_1 := hX.frozen 1 rfl; have cw9_2 := hX.cell 2 rfl; have fw9_2 := hX.frozen 2 rfl
                have hy0 := hB.lt; have cw0_0 := hB.cell 0 rfl; have fw0_0 := hB.frozen 0 rfl; have cw0_1 := hB.cell 1 rfl; have fw0_1 := hB.frozen 1 rfl
                clear hat hat' hbl hy hq htn hft hX hB p1 p2 p3 p4
                subst hA5
                go_wp2_with fail
                refine (impl_otherEnd p xn tn _ HFT.out HTN.out).mono ?_
                rintro e w6 ⟨rfl, hb6⟩
                have HK6 := Lib.hid (HK.out.below hb6)
                have HLA6 := Lib.hid (HLA.out.below hb6)
                have hz6 := hb6.size
                clear hb6 HK HLA t0 r0 r1 r2 r3 r4 cw9_0 cw9_1 cw9_2 fw9_0 fw9_1 fw9_2 hy9 cw0_0 cw0_1 fw0_0 fw0_1 hy0
                have hX := HK6.out.bX
                have hy9 := hX.lt; have cw9_0 := hX.cell 0 rfl; have fw9_0 := hX.frozen 0 rfl; have cw9_1 := hX.cell 1 rfl; have fw9_1 := hX.frozen 1 rfl; have cw9_2 := hX.cell 2 rfl; have fw9_2 := hX.frozen 2 rfl
                clear hX
                obtain ⟨dt, hdt⟩ := get_some (l := D) (k := tn) (by rw [HK6.out.dl]; exact htl)
                have s0 := ints_cell HK6.out.a1 hdt
                have HDT := Lib.hid hdt
                have hd3 := HK6.out.d3
                have hd1 := HK6.out.d1
                have hd2 := HK6.out.d2
                clear hdt
                by_cases hneg : dt < 0
                · obtain ⟨dx, hdx⟩ := get_some (l := D) (k := xn) (by rw [HK6.out.dl]; omega)
                  have hdxb := HP.out.db dx (List.mem_of_getElem? hdx)
                  obtain ⟨et, het⟩ := get_some (l := E) (k := tn) (by rw [HK6.out.el]; exact htl)
                  have HDX := Lib.hid hdx
                  have HET := Lib.hid het
                  have g4 : (xn : Int) < N.nodes.length := by omega
                  obtain ⟨dx1, dx2⟩ : -1 ≤ dx ∧ dx ≤ 24 := by omega
                  clear hdxb
                  clear hdx het
                  go_wp2_with fail
                  refine wp_region_tb (R := Unit) [some 75, some 76, some 77, some 78, some 79, some 80, some 81, some 82, some 83, some 84, some 85, some 86, some 87, some 88, none, some 89, none] _ (by intro u; simp only [frs, Act.put, List.setIfInBounds_toArray, List.set_cons_zero, List.set_cons_succ, Nat.reduceAdd]; exact rfl) (fun ρ j => ([.pointer (some ⟨X, 1, none⟩), .slice (some ⟨g1, 0, none⟩) N.nodes.length N.nodes.length, .int .i64 tn, .pointer (some ⟨X, 2, none⟩), .slice (some ⟨g2, 0, none⟩) N.nodes.length N.nodes.length, .int .i64 tn, .pointer (some ⟨X, 1, none⟩), .slice (some ⟨g1, 0, none⟩) N.nodes.length N.nodes.length, .int .i64 xn, .pointer (some ⟨g1, xn, none⟩), .int .i64 dx, .int .i64 (dx + 1), .int .i64 (q : Nat), .pointer (some ⟨g1, tn, none⟩), undef, .pointer (some ⟨g2, tn, none⟩), undef] : List Value).getD j undef) (WS2 14 16 g1 g2 N.nodes.length (D.map iV) ((D.set tn (dx + 1)).map iV) (E.map iV) ((E.set tn (q : Nat)).map iV) w6) (by kernel_rfl) (by kernel_rfl) () (WS2.start (Keep.drew (Keep.refl _ _)) HK6.out.a1.drew HK6.out.a2.drew) ?_ ?_
                  · intro ii hii L ρ u wx hl hp hc hu hn hW
                    have hii : ii < 17 := hii
                    have HNo := Lib.hid hn
                    clear hn
                    have hbX := HK6.out.bX.keep hW.kp (by omega)
                    have z1 := hbX.cell 1 rfl
                    have z2 := hbX.cell 2 rfl
                    have hii : ii = 0 ∨ ii = 1 ∨ ii = 2 ∨ ii = 3 ∨ ii = 4 ∨ ii = 5 ∨ ii = 6 ∨ ii = 7 ∨ ii = 8 ∨ ii = 9 ∨ ii = 10 ∨ ii = 11 ∨ ii = 12 ∨ ii = 13 ∨ ii = 14 ∨ ii = 15 ∨ ii = 16 := by omega
                    rcases hii with rfl | rfl | rfl | rfl | rfl | rfl | rfl | rfl | rfl | rfl | rfl | rfl | rfl | rfl | rfl | rfl | rfl
                    · refine wpOp_go (E := True) rfl rfl (fun K' hK => ?_)
                      go_simp
                      refine hK.out _ _ ⟨ρ, (by simp only [put]; rfl), fun _ _ => rfl, hW.pure (by omega) (by omega)⟩
                    · have e0 : u 0 = .pointer (some ⟨X, 1, none⟩) := hu 0 (all_of hp (by kernel_rfl))
                      refine wpOp_go (E := True) rfl rfl (fun K' hK => ?_)
                      go_simp
                      refine hK.out _ _ ⟨ρ, (by simp only [put, e0]; rfl), fun _ _ => rfl, hW.pure (by omega) (by omega)⟩
                    · refine wpOp_go (E := True) rfl rfl (fun K' hK => ?_)
                      go_simp
                      refine hK.out _ _ ⟨ρ, (by simp only [put]; rfl), fun _ _ => rfl, hW.pure (by omega) (by omega)⟩
                    · refine wpOp_go (E := True) rfl rfl (fun K' hK => ?_)
                      go_simp
                      refine hK.out _ _ ⟨ρ, (by simp only [put]; rfl), fun _ _ => rfl, hW.pure (by omega) (by omega)⟩
                    · have e3 : u 3 = .pointer (some ⟨X, 2, none⟩) := hu 3 (all_of hp (by kernel_rfl))
                      refine wpOp_go (E := True) rfl rfl (fun K' hK => ?_)
                      go_simp
                      refine hK.out _ _ ⟨ρ, (by simp only [put, e3]; rfl), fun _ _ => rfl, hW.pure (by omega) (by omega)⟩
                    · refine wpOp_go (E := True) rfl rfl (fun K' hK => ?_)
                      go_simp
                      refine hK.out _ _ ⟨ρ, (by simp only [put]; rfl), fun _ _ => rfl, hW.pure (by omega) (by omega)⟩
                    · refine wpOp_go (E := True) rfl rfl (fun K' hK => ?_)
                      go_simp
                      refine hK.out _ _ ⟨ρ, (by simp only [put]; rfl), fun _ _ => rfl, hW.pure (by omega) (by omega)⟩
                    · have e6 : u 6 = .pointer (some ⟨X, 1, none⟩) := hu 6 (all_of hp (by kernel_rfl))
                      refine wpOp_go (E := True) rfl rfl (fun K' hK => ?_)
                      go_simp
                      refine hK.out _ _ ⟨ρ, (by simp only [put, e6]; rfl), fun _ _ => rfl, hW.pure (by omega) (by omega)⟩
                    · refine wpOp_go (E := True) rfl rfl (fun K' hK => ?_)
                      go_simp
                      refine hK.out _ _ ⟨ρ, (by simp only [put]; rfl), fun _ _ => rfl, hW.pure (by omega) (by omega)⟩
                    · have e7 : u 7 = .slice (some ⟨g1, 0, none⟩) N.nodes.length N.nodes.length := hu 7 (all_of hp (by kernel_rfl))
                      have e8 : u 8 = .int .i64 xn := hu 8 (all_of hp (by kernel_rfl))
                      refine wpOp_go (E := True) rfl rfl (fun K' hK => ?_)
                      go_simp
                      refine hK.out _ _ ⟨ρ, (by simp only [put, e7, e8]; rfl), fun _ _ => rfl, hW.pure (by omega) (by omega)⟩
                    · have e9 : u 9 = .pointer (some ⟨g1, xn, none⟩) := hu 9 (all_of hp (by kernel_rfl))
                      have nks : L 14 = false := no_later hc hl (by kernel_rfl)
                      have y0 := ints_cell (hW.a0 nks) HDX.out
                      refine wpOp_go (E := True) rfl rfl (fun K' hK => ?_)
                      go_simp
                      refine hK.out _ _ ⟨ρ, (by simp only [put, e9]; rfl), fun _ _ => rfl, hW.pure (by omega) (by omega)⟩
                    · have e10 : u 10 = .int .i64 dx := hu 10 (all_of hp (by kernel_rfl))
                      have q1 : IntKind.i64.wrap (dx + 1) = dx + 1 := IntWalk.i64_in _ (by omega)
                      refine wpOp_go (E := True) rfl rfl (fun K' hK => ?_)
                      go_simp
                      refine hK.out _ _ ⟨ρ, (by simp only [put, e10, q1]; rfl), fun _ _ => rfl, hW.pure (by omega) (by omega)⟩
                    · refine wpOp_go (E := True) rfl rfl (fun K' hK => ?_)
                      go_simp
                      refine hK.out _ _ ⟨ρ, (by simp only [put]; rfl), fun _ _ => rfl, hW.pure (by omega) (by omega)⟩
                    · have e1 : u 1 = .slice (some ⟨g1, 0, none⟩) N.nodes.length N.nodes.length := hu 1 (all_of hp (by kernel_rfl))
                      have e2 : u 2 = .int .i64 tn := hu 2 (all_of hp (by kernel_rfl))
                      refine wpOp_go (E := True) rfl rfl (fun K' hK => ?_)
                      go_simp
                      refine hK.out _ _ ⟨ρ, (by simp only [put, e1, e2]; rfl), fun _ _ => rfl, hW.pure (by omega) (by omega)⟩
                    · have e13 : u 13 = .pointer (some ⟨g1, tn, none⟩) := hu 13 (all_of hp (by kernel_rfl))
                      have e11 : u 11 = .int .i64 (dx + 1) := hu 11 (all_of hp (by kernel_rfl))
                      have y0 := ints_cell (hW.a0 hl) HDT.out
                      have y1 := (hW.a0 hl).free htl
                      refine wpOp_go (E := True) rfl rfl (fun K' hK => ?_)
                      go_simp
                      refine hK.out _ _ ⟨ρ, (by simp only [put, e13, e11]; rfl), fun _ _ => rfl, hW.st1 hl (by omega) hd3 htl (by rw [map_set_iV])⟩
                    · have e4 : u 4 = .slice (some ⟨g2, 0, none⟩) N.nodes.length N.nodes.length := hu 4 (all_of hp (by kernel_rfl))
                      have e5 : u 5 = .int .i64 tn := hu 5 (all_of hp (by kernel_rfl))
                      refine wpOp_go (E := True) rfl rfl (fun K' hK => ?_)
                      go_simp
                      refine hK.out _ _ ⟨ρ, (by simp only [put, e4, e5]; rfl), fun _ _ => rfl, hW.pure (by omega) (by omega)⟩
                    · have e15 : u 15 = .pointer (some ⟨g2, tn, none⟩) := hu 15 (all_of hp (by kernel_rfl))
                      have e12 : u 12 = .int .i64 (q : Nat) := hu 12 (all_of hp (by kernel_rfl))
                      have y0 := ints_cell (hW.c0 hl) HET.out
                      have y1 := (hW.c0 hl).free htl
                      refine wpOp_go (E := True) rfl rfl (fun K' hK => ?_)
                      go_simp
                      refine hK.out _ _ ⟨ρ, (by simp only [put, e15, e12]; rfl), fun _ _ => rfl, hW.st2 hl (by omega) hd3 htl (by rw [map_set_iV])⟩
                  · intro L ρ u wx hall hu hW
                    have HK7 := Lib.hid (HK6.out.two hW.kp (hW.a1 (hall 14 (by show 14 < 17; omega))) (hW.c1 (hall 16 (by show 16 < 17; omega))) (by simpa using HK6.out.dl) (by simpa using HK6.out.el))
                    have HLA7 := Lib.hid (HLA6.out.two hW.kp)
                    clear hu hall hW HK6 HLA6 s0 cw9_0 cw9_1 cw9_2 fw9_0 fw9_1 fw9_2 hy9
                    have hX := HK7.out.bX
                    have hy9 := hX.lt; have cw9_0 := hX.cell 0 rfl; have fw9_0 := hX.frozen 0 rfl; have cw9_1 := hX.cell 1 rfl; have fw9_1 := hX.frozen 1 rfl; have cw9_2 := hX.cell 2 rfl; have fw9_2 := hX.frozen 2 rfl
                    clear hX
                    have hu1 := HK7.out.uX
                    go_wp2_with ((at_builtin; refine wp_app1x _ rfl (.tmp 91) (.tmp 93) 32 rfl (w.heap.size + 2) info_i64 Try.underlying32 rfl (by omega) (by omega) _ _ _ rfl (HK7.out.o.alloc _) _ 1 1 [iV tn] rfl rfl (by intro j u hu; match j, hu with | 0, hu => (simp at hu; subst hu; simp) | j + 1, hu => simp at hu) (by simp [Value.oneCell']) (by omega) (by omega) (by have := HK7.out.sz; simp; omega) ?_; intro v8 w8 hO8 hb8 hF8; obtain ⟨A8, c8, rfl, -, -, -⟩ := hO8.val; have hX8 := hF8.bx (HK7.out.bX.below (Below.alloc (Below.refl _ wx) (Nat.le_refl _) _) HK7.out.bX.lt) HK7.out.uX; have HO8 := Lib.hid hO8; have HB8 := Lib.hid hb8; have HF8 := Lib.hid hF8; clear hO8 hb8 hF8 cw9_0 cw9_1 cw9_2 fw9_0 fw9_1 fw9_2 hy9; have hy9 := hX8.lt; have cw9_0 := hX8.cell 0 rfl; have fw9_0 := hX8.frozen 0 rfl; have cw9_1 := hX8.cell 1 rfl; have fw9_1 := hX8.frozen 1 rfl; have cw9_2 := hX8.cell 2 rfl; have fw9_2 := hX8.frozen 2 rfl; clear hX8))
                    have HK9 := Lib.hid (HK7.out.app HO8.out HB8.out HF8.out)
                    have HLA9 := Lib.hid (HLA7.out.app HF8.out (by have := HB8.out.size; simp at this; omega))
                    have HP9 := Lib.hid (HP.out.push htl HDT.out hneg (z := dx + 1) (by omega) (by have := HP.out.db dx (List.mem_of_getElem? HDX.out); omega))
                    have HR9 := Lib.hid (show Sr N node (visS (D.set tn (dx + 1))) (O ++ [(tn : Int)]) k by rw [visS_set _ _ (by omega)]; exact HR.out.push HXk.out (List.mem_of_getElem? HQ.out) HFT.out HTN.out)
                    go_roundw
                    case rel => exact ⟨i + 1, _, _, _, O ++ [(tn : Int)], by go_num, by omega, by rw [List.getElem?_append_left hk]; exact HXk.out, HK9.out, HP9.out, HR9.out, (HSI.out.app).step HY.out HQ.out HTN.out (by simp), HLA9.out⟩
                    case measure => simp [intOf]; omega
                · go_wp2_with fail
                  go_roundw
                  case rel => exact ⟨i + 1, u, D, E, O, by go_num, by omega, HXk.out, HK6.out, HP.out, HR.out, HSI.out.step HY.out HQ.out HTN.out (HR.out.io tn (by rw [List.getElem?_map, HDT.out]; simp; omega)), HLA6.out⟩
                  case measure => simp [intOf]; omega
              · have g1' : ¬ (i : Int) < la.length := by omega
                clear hX hB
                go_wp2_with fail
                go_roundw
                case rel => exact ⟨k + 1, u, D, E, O, by go_num, by omega, HK.out, HP.out, HR.out.next HXk.out HAL.out (by rw [show la.length = i by omega]; exact HSI.out)⟩
                case measure => simp [intOf]; omega
          · have hkE : k = O.length := by omega
            have g1' : ¬ (k : Int) < O.length := by omega
            have hR1 := HK.out.b1
            obtain ⟨A2, c2, rfl, hc2, hR2, hb2⟩ := HK.out.o.val
            have HR2 := Lib.hid hR2
            have HB2 := Lib.hid hb2
            have hy9 := hX.lt; have cw9_0 := hX.cell 0 rfl; have fw9_0 := hX.frozen 0 rfl; have cw9_1 := hX.cell 1 rfl; have fw9_1 := hX.frozen 1 rfl; have cw9_2 := hX.cell 2 rfl; have fw9_2 := hX.frozen 2 rfl
            have hy1 := hR1.lt; have cw1_0 := hR1.cell 0 rfl; have fw1_0 := hR1.frozen 0 rfl; have cw1_1 := hR1.cell 1 rfl; have fw1_1 := hR1.frozen 1 rfl; have cw1_2 := hR1.cell 2 rfl; have fw1_2 := hR1.frozen 2 rfl
            clear hR2 hb2 hX hR1 hB
            go_wp2_with fail
            have hbf := HK.out.bl
            have hk1 := keep3 (w := wr) (b := w.heap.size + 1) (.slice A2 O.length c2) (.slice (some ⟨g1, 0, none⟩) N.nodes.length N.nodes.length) (.slice (some ⟨g2, 0, none⟩) N.nodes.length N.nodes.length)
            have hR9 := HR2.out.keep hk1 (fun b off e q => by have := HB2.out b off e; omega)
            have hbel := hk1.below hbf hbf.size (fun k q => by omega)
            have hx9 := bx_fill3 (HK.out.b1) (.slice A2 O.length c2) (.slice (some ⟨g1, 0, none⟩) N.nodes.length N.nodes.length) (.slice (some ⟨g2, 0, none⟩) N.nodes.length N.nodes.length)
            revert hR9 hbel hx9
            generalize World.setCell _ _ _ = w9
            intro hR9 hbel hx9
            have k0 := hx9.cell 0 rfl
            have k1 := hx9.cell 1 rfl
            have k2 := hx9.cell 2 rfl
            refine bodyPost_ret (v := .agg #[.slice A2 O.length c2, .slice (some ⟨g1, 0, none⟩) N.nodes.length N.nodes.length, .slice (some ⟨g2, 0, none⟩) N.nodes.length N.nodes.length]) (by simp [results, Try.results62, go_sem, k0, k1, k2]; try rfl) rfl ?_
            exact ⟨A2, some ⟨g1, 0, none⟩, some ⟨g2, 0, none⟩, c2, N.nodes.length, N.nodes.length, N.nodes.length, N.nodes.length, O, rfl, hle, HP.out.ob, Sr.done (hkE ▸ HR.out), hR9, fun b off e => by have := HB2.out b off e; omega, hbel⟩
end Go.Proofs.Ytlbidcblpmdgaaa
namespace Go.Proofs.Ytlbidcblpmdgaaa
set_option linter.unusedVariables false
set_option linter.unusedSimpArgs false
open Go.RowKit
set_option maxRecDepth 100000 in
set_option maxHeartbeats 4000000 in
theorem impl_componentsOf (A B : Option Addr) (n c m d : Nat) (N : Net) (w : World) (hN : NetAt w A B N) (hn : n = N.nodes.length) (hm : m = N.pipes.length) (hO : N.Ok) (hC : Conn N) :
    Calls Try.prog 47 #[netV A B n c m d] w fun e w' => ∃ (g : Nat), e = .returned (.slice (some ⟨g, 0, none⟩) N.nodes.length N.nodes.length) ∧ Arr w' g N.nodes.length ((List.replicate N.nodes.length 0).map iV) ∧ w.heap.size ≤ g ∧ Below w.heap.size w w' := by
  subst hn hm
  have HN := Lib.hid hN
  have HO := Lib.hid hO
  have HC := Lib.hid hC
  have hln := hN.ln
  have hlp := hN.lp
  have hn1 := hO.n1
  have hn2 := hO.n2
  clear hN hO hC
  have hmk := make_i64 N.nodes.length (by omega)
  have hfd : ∀ (A1 A2 A3 : Option Addr) (n1 c1 n2 c2 n3 c3 : Nat) (w : World), (Instr.field 87 (.agg #[.slice A1 n1 c1, .slice A2 n2 c2, .slice A3 n3 c3]) 0).run Try.prog w = .ok (.slice A1 n1 c1) w := fun _ _ _ _ _ _ _ _ _ _ => by kernel_rfl
  go_enter Try.func47, Try.ntmps47
  go_wp2_with fail
  have HA1 := Lib.hid (Arr.madeI (w.alloc (.cells #[.slice A N.nodes.length c, .slice B N.pipes.length d] 27)) N.nodes.length 2)
  clear hmk
  go_loopw [14] (fun v wr => ∃ (k : Nat), k ≤ N.nodes.length ∧ v = .int .i64 k ∧ Arr wr (w.heap.size + 1) N.nodes.length ((filM N.nodes.length k).map iV) ∧ Bx wr w.heap.size [.slice A N.nodes.length c, .slice B N.pipes.length d] ∧ Below w.heap.size w wr) (fun v _ => N.nodes.length - (intOf v).toNat)
  case atStart => exact ⟨0, by omega, rfl, by simpa [filM] using HA1.out, (bx2 (by first | exact hy0 | go_size) (by first | (with_reducible exact cw0_0) | go_cell_look | (simp [go_sem, hy0, cw0_0, fw0_0, cw0_1, fw0_1]; done) | (simp [go_sem]; done)) (by first | (with_reducible exact fw0_0) | (simp only [World.frozen?_setCell, fw0_0]; done) | (simp [go_sem, hy0, cw0_0, fw0_0, cw0_1, fw0_1]; done) | (simp [go_sem]; done)) (by first | (with_reducible exact cw0_1) | go_cell_look | (simp [go_sem, hy0, cw0_0, fw0_0, cw0_1, fw0_1]; done) | (simp [go_sem]; done)) (by first | (with_reducible exact fw0_1) | (simp only [World.frozen?_setCell, fw0_1]; done) | (simp [go_sem, hy0, cw0_0, fw0_0, cw0_1, fw0_1]; done) | (simp [go_sem]; done))), by (repeat' (first | (with_reducible exact Below.refl _ _) | (with_reducible assumption) | (with_reducible refine Below.alloc ?_ ?_ _) | (with_reducible refine Below.drew ?_) | (with_reducible refine Below.drewN' ?_ _) | (with_reducible refine Below.setCell ?_ ?_ _) | (refine Below.via ?_ (by with_reducible assumption) ?_) | (with_reducible refine Below.via ?_ (Wd.h _) ?_) | go_size))⟩
  case round =>
    clear HA1
    obtain ⟨k, hk, rfl, hA1, hB, hbw⟩ := hrel
    have hbH := Lib.hid hbw
    have H1 := Lib.hid hA1
    have HB := Lib.hid hB
    have hlt1 := hA1.lt
    clear hA1 hB hbw
    by_cases hlt : k < N.nodes.length
    · have g1 : (k : Int) < N.nodes.length := by omega
      obtain ⟨y, hy⟩ := get_some (l := filM N.nodes.length k) (k := k) (by rw [filM_len (by omega)]; exact hlt)
      have s0 := ints_cell H1.out hy
      have s1 := H1.out.free (j := k) hlt
      clear hy
      go_wp2
      go_roundw
      case rel =>
        refine ⟨k + 1, by omega, by go_num, ?_, ?_, (hbH.out).setCell (by simp) _⟩
        · have := H1.out.setAt hlt (.int .i64 (-1))
          rw [← filM_set hlt, map_set_iV]; exact this
        · have hk1 : Keep (fun z => z = w.heap.size + 1) wr (wr.setCell ⟨w.heap.size + 1, k, none⟩ (.int .i64 (-1))) := (Keep.refl (fun z => z = w.heap.size + 1) wr).setCell (p := ⟨w.heap.size + 1, k, none⟩) rfl _
          exact HB.out.keep hk1 (by omega)
      case measure => simp [intOf]; omega
    · obtain rfl : k = N.nodes.length := by omega
      have g1 : ¬ (N.nodes.length : Int) < N.nodes.length := by omega
      have e1 : filM N.nodes.length N.nodes.length = List.replicate N.nodes.length (-1) := by simp [filM]
      have HF := Lib.hid (e1 ▸ H1.out)
      clear H1 e1
      go_wp2_with fail
      go_loopw [23] (fun v wv => ∃ (k : Nat) (z : Int), k ≤ N.nodes.length ∧ v = .int .i64 k ∧ ((k = 0 ∧ z = -1) ∨ (0 < k ∧ z = 0)) ∧ Arr wv (w.heap.size + 1) N.nodes.length ((List.replicate N.nodes.length z).map iV) ∧ Bx wv w.heap.size [.slice A N.nodes.length c, .slice B N.pipes.length d] ∧ Below w.heap.size w wv) (fun v _ => N.nodes.length - (intOf v).toNat)
      case atStart => exact ⟨0, -1, by omega, rfl, .inl ⟨rfl, rfl⟩, HF.out, HB.out, hbH.out⟩
      case round =>
        clear HF HB hbH hlt1
        obtain ⟨k, z, hk, rfl, hz, hA1, hB, hbw⟩ := hrel
        have hbH := Lib.hid hbw
        have H1 := Lib.hid hA1
        have HB := Lib.hid hB
        have hlt1 := hA1.lt
        have hy7 := hB.lt; have cw7_0 := hB.cell 0 rfl; have fw7_0 := hB.frozen 0 rfl; have cw7_1 := hB.cell 1 rfl; have fw7_1 := hB.frozen 1 rfl
        clear hA1 hB hbw
        by_cases hlt : k < N.nodes.length
        · have g2 : (k : Int) < N.nodes.length := by omega
          have s0 := ints_cell H1.out (k := k) (n := z) (by simp [hlt])
          rcases hz with ⟨rfl, rfl⟩ | ⟨hk0, rfl⟩
          · go_wp2_with fail
            refine (impl_searchFrom A B _ c _ d N 0 _ (HN.out.below hbH.out) rfl rfl HO.out hlt).mono ?_
            rintro e w3 ⟨B1, B2, B3, d1, d2, d3, m2, m3, O, rfl, hol, hob, hsr, hR1, hb1, hb3⟩
            have HOB := Lib.hid hob
            have HR2 := Lib.hid hR1
            have HB2 := Lib.hid (show ∀ b off, B1 = some ⟨b, off, none⟩ → w.heap.size + 1 < b from fun b off e => by have := hb1 b off e; omega)
            have H3 := Lib.hid (H1.out.below hb3 hlt1)
            have HB3 := Lib.hid (HB.out.below hb3 HB.out.lt)
            have hz3 := hb3.size
            have hbH3 := Lib.hid (hbH.out.trans (hb3.mono (by omega)))
            have HALL := Lib.hid (show setO (List.replicate N.nodes.length (-1)) 0 O = List.replicate N.nodes.length 0 from setO_all (by simp) (fun y hy => (hob y hy).1) (fun v hv => hsr.all HC.out hlt hv))
            clear hob hsr hR1 hb1 hb3 H1 HB hbH s0 cw7_0 cw7_1 fw7_0 fw7_1 hy7
            go_wp2_with fail
            go_loopw [36] (fun v wv => ∃ (j : Nat) (l' : List Int), j ≤ O.length ∧ v = .int .i64 j ∧ l'.length = N.nodes.length ∧ setO l' 0 (O.drop j) = List.replicate N.nodes.length 0 ∧ Arr wv (w.heap.size + 1) N.nodes.length (l'.map iV) ∧ Rd wv B1 (O.map iV) ∧ Bx wv w.heap.size [.slice A N.nodes.length c, .slice B N.pipes.length d] ∧ Below w.heap.size w wv) (fun v _ => O.length - (intOf v).toNat)
            case atStart => exact ⟨0, _, by omega, rfl, by simp, HALL.out, H3.out, HR2.out, HB3.out, hbH3.out⟩
            case round =>
              clear H3 HR2 HB3 hbH3 hlt1 HALL
              obtain ⟨j, l', hj, rfl, hl, hso, hA1, hR, hB, hbw⟩ := hrel
              have HSO := Lib.hid hso
              have hbH := Lib.hid hbw
              have H1 := Lib.hid hA1
              have HR := Lib.hid hR
              have HB := Lib.hid hB
              have hlt1 := hA1.lt
              have HLN := Lib.hid hl
              clear hA1 hB hbw hl hR hso
              by_cases hlj : j < O.length
              · obtain ⟨x, hx⟩ := get_some hlj
                obtain ⟨x0, x1⟩ := HOB.out x (List.mem_of_getElem? hx)
                obtain ⟨q, rfl⟩ : ∃ q : Nat, x = q := ⟨x.toNat, by omega⟩
                have hql : q < N.nodes.length := by omega
                obtain ⟨b, off, rfl, hb, hat⟩ := HR.out.opened (k := j) (by simpa using hlj)
                have t0 := ints_at hat hx
                have hbn := HB2.out b off rfl
                obtain ⟨z, hz⟩ := get_some (l := l') (k := q) (by rw [HLN.out]; exact hql)
                have s0 := ints_cell H1.out hz
                have s1 := H1.out.free (j := q) hql
                have g3 : (j : Int) < O.length := by omega
                have HXJ := Lib.hid hx
                clear hat hx hz
                go_wp2
                go_roundw
                case rel =>
                  have hk1 : Keep (fun z => z = w.heap.size + 1) wr (wr.setCell ⟨w.heap.size + 1, q, none⟩ (.int .i64 0)) := (Keep.refl (fun z => z = w.heap.size + 1) wr).setCell (p := ⟨w.heap.size + 1, q, none⟩) rfl _
                  refine ⟨j + 1, l'.set q 0, by omega, by go_num, by simpa using HLN.out, by have e := setO_drop (l := l') (k := (0 : Int)) HXJ.out; rw [Int.toNat_natCast] at e; rw [← e]; exact HSO.out, ?_, HR.out.keep hk1 (fun b' off' e => by injection e with e; injection e with e1; omega), HB.out.keep hk1 (by omega), (hbH.out).setCell (by simp) _⟩
                  have := H1.out.setAt hql (.int .i64 0)
                  rw [map_set_iV]; exact this
                case measure => simp [intOf]; omega
              · have g3 : ¬ (j : Int) < O.length := by omega
                go_wp2_with fail
                go_roundw
                case rel => exact ⟨1, 0, by omega, by first | rfl | go_num, .inr ⟨by omega, rfl⟩, by have e := HSO.out; rw [setO_end hlj] at e; rw [← e]; exact H1.out, HB.out, hbH.out⟩
                case measure => simp [intOf]; omega
          · go_wp2
            go_roundw
            case rel => exact ⟨k + 1, 0, by omega, by go_num, .inr ⟨by omega, rfl⟩, H1.out, HB.out, hbH.out⟩
            case measure => simp [intOf]; omega
        · have g2 : ¬ (k : Int) < N.nodes.length := by omega
          obtain ⟨hk0, rfl⟩ : 0 < k ∧ z = 0 := by omega
          go_wp2
          go_ret
          exact ⟨w.heap.size + 1, rfl, by simpa using H1.out, by omega, hbH.out⟩
/-- the sum of a list's first numbers -/
theorem sumF_take {l : List Int} {k : Nat} {x : Int} (h : l[k]? = some x) : sumF (l.take (k + 1)) = sumF (l.take k) + x := by
  have hk : k < l.length := (List.getElem?_eq_some_iff.1 h).1
  have e : l[k] = x := (List.getElem?_eq_some_iff.1 h).2
  have happ : ∀ a b : List Int, sumF (a ++ b) = sumF a + sumF b := by
    intro a b
    induction a with
    | nil => simp [sumF]
    | cons y a ih => simp only [List.cons_append, sumF, ih]; omega
  rw [List.take_succ_eq_append_getElem hk, happ, e]
  simp [sumF]
theorem sumF_bdn {b : Int} : ∀ (l : List Int), (∀ x ∈ l, -b ≤ x ∧ x ≤ b) → -(b * (l.length : Int)) ≤ sumF l ∧ sumF l ≤ b * (l.length : Int)
  | [], _ => by simp [sumF]
  | a :: l, h => by
    obtain ⟨q1, q2⟩ := sumF_bdn l (fun x hx => h x (List.mem_cons_of_mem _ hx))
    obtain ⟨a1, a2⟩ := h a List.mem_cons_self
    have e : b * ((a :: l).length : Int) = b * (l.length : Int) + b := by rw [List.length_cons, Int.natCast_add, Int.mul_add]; simp
    rw [e]
    simp only [sumF]
    omega
theorem rep_set0 (n : Nat) : (List.replicate n (0 : Int)).set 0 0 = List.replicate n 0 := by cases n <;> simp [List.replicate_succ]
theorem rep_all0 (n : Nat) : allB 0 0 (List.replicate n 0) = true := allB_iff.2 fun x hx => by rw [List.eq_of_mem_replicate hx]; omega
set_option maxRecDepth 100000 in
set_option maxHeartbeats 4000000 in
theorem impl_isEven (A B C : Option Addr) (n c m d e0 : Nat) (N : Net) (l : List Int) (w : World) (hN : NetAt w A B N) (hn : n = N.nodes.length) (hm : m = N.pipes.length) (hO : N.Ok) (hC : Conn N) (h : Rd w C (l.map iV)) (hl : l.length = N.nodes.length) (hs : ∀ x ∈ l, -30000 ≤ x ∧ x ≤ 30000) (h0 : sumF l = 0) :
    Calls Try.prog 30 #[netV A B n c m d, .slice C l.length e0] w fun e w' => e = .returned (.bool true) ∧ Below w.heap.size w w' := by
  subst hn hm
  have HN := Lib.hid hN
  have HO := Lib.hid hO
  have HC := Lib.hid hC
  have HL := Lib.hid h
  have HLN := Lib.hid hl
  have HS := Lib.hid hs
  have H0 := Lib.hid h0
  have hln := hN.ln
  have hlp := hN.lp
  have hn1 := hO.n1
  have hn2 := hO.n2
  have hl1 : 1 ≤ l.length ∧ l.length ≤ 24 := by omega
  clear hN hO hC h hl hs h0
  have hmk := make_i64 N.nodes.length (by omega)
  go_enter Try.func30, Try.ntmps30
  go_wp2_with fail
  have HA1 := Lib.hid (Arr.madeI (w.alloc (.cells #[.slice A N.nodes.length c, .slice B N.pipes.length d] 27)) N.nodes.length 2)
  clear hmk
  refine (impl_componentsOf A B _ c _ d N _ (HN.out.below (by (repeat' (first | (with_reducible exact Below.refl _ _) | (with_reducible assumption) | (with_reducible refine Below.alloc ?_ ?_ _) | (with_reducible refine Below.drew ?_) | (with_reducible refine Below.drewN' ?_ _) | (with_reducible refine Below.setCell ?_ ?_ _) | (refine Below.via ?_ (by with_reducible assumption) ?_) | (with_reducible refine Below.via ?_ (Wd.h _) ?_) | go_size)))) rfl rfl HO.out HC.out).mono ?_
  rintro e w3 ⟨g, rfl, hR, hg, hb3⟩
  have hz3 := hb3.size
  simp at hg hz3
  have HR := Lib.hid hR
  have hA3 := HA1.out.below hb3 (by simp)
  rw [show (w.alloc (.cells #[.slice A N.nodes.length c, .slice B N.pipes.length d] 27)).heap.size = w.heap.size + 1 by simp] at hA3
  have HA3 := Lib.hid hA3
  clear hA3
  have HB3 := Lib.hid (show Below w.heap.size w w3 by (repeat' (first | (with_reducible exact Below.refl _ _) | (with_reducible assumption) | (with_reducible refine Below.alloc ?_ ?_ _) | (with_reducible refine Below.drew ?_) | (with_reducible refine Below.drewN' ?_ _) | (with_reducible refine Below.setCell ?_ ?_ _) | (refine Below.via ?_ (by with_reducible assumption) ?_) | (with_reducible refine Below.via ?_ (Wd.h _) ?_) | go_size)))
  have hRl := hR.lt
  clear hR hb3 HA1
  go_wp2_with fail
  go_loopw [15] (fun v wv => ∃ (k : Nat), k ≤ N.nodes.length ∧ v = .int .i64 k ∧ Arr wv (w.heap.size + 1) N.nodes.length (((List.replicate N.nodes.length 0).set 0 (sumF (l.take k))).map iV) ∧ Arr wv g N.nodes.length ((List.replicate N.nodes.length 0).map iV) ∧ Below w.heap.size w wv) (fun v _ => N.nodes.length - (intOf v).toNat)
  case atStart => exact ⟨0, by omega, rfl, by rw [List.take_zero, show sumF [] = 0 from rfl, rep_set0]; exact HA3.out, HR.out, HB3.out⟩
  case round =>
    clear HA3 HR HB3
    obtain ⟨k, hk, rfl, hA1, hR, hbw⟩ := hrel
    have H1 := Lib.hid hA1
    have HR := Lib.hid hR
    have hbH := Lib.hid hbw
    have hlt1 := hA1.lt
    have hltg := hR.lt
    by_cases hlt : k < N.nodes.length
    · have hltl : k < l.length := by rw [HLN.out]; exact hlt
      obtain ⟨x, hx⟩ := get_some hltl
      obtain ⟨x1, x2⟩ := HS.out x (List.mem_of_getElem? hx)
      obtain ⟨b, off, rfl, hb, hat⟩ := HL.out.opened (k := k) (by simpa using hltl)
      have t0 := ints_at (hat.below hbw hb) hx
      have hST := Lib.hid (sumF_take hx)
      obtain ⟨b1, b2⟩ := sumF_bdn (b := 30000) (l.take k) (fun x hx => HS.out x (List.mem_of_mem_take hx))
      rw [List.length_take, Nat.min_eq_left (by omega)] at b1 b2
      obtain ⟨sk, hsk⟩ : ∃ sk, sumF (l.take k) = sk := ⟨_, rfl⟩
      rw [hsk] at b1 b2
      have HSK := Lib.hid hsk
      have b3 : -720000 ≤ sk := by omega
      have b4 : sk ≤ 720000 := by omega
      have s0 := ints_cell H1.out (k := 0) (n := sk) (by rw [List.getElem?_set_self (by simp; omega), hsk])
      have s1 := H1.out.free (j := 0) (by omega)
      have s2 := ints_cell HR.out (k := k) (n := 0) (by simp [hlt])
      have g1 : (k : Int) < N.nodes.length := by omega
      have g2 : (k : Int) < l.length := by omega
      have g3 : (0 : Int) < N.nodes.length := by omega
      have hyb : b < wr.heap.size := Nat.lt_of_lt_of_le hb hbw.size
      clear hat hx hbw hA1 hR hsk b1 b2
      go_wp2_with fail
      (have qk0 := Wd.cell (by first | assumption | omega | (simp; omega)) t0; have qk1 := Wd.cell (by first | assumption | omega | (simp; omega)) s0; (refine wp_region_wd_tail 10 (by kernel_rfl) (by kernel_rfl) ?_; simp only [List.take_succ_cons, List.take_zero, List.drop_succ_cons, List.drop_zero]); (repeat (go_big_quiet_step ((first | fail)))); (refine wpQuiet_nil ?_); rintro w5 ⟨⟨w'', hbw5⟩, hw''⟩; obtain rfl : w5 = w'' := hw''; clear qk0 qk1; have hzw5 := hbw5.size; (try simp at hzw5))
      have H2 := Lib.hid (H1.out.below hbw5 hlt1)
      have s3 := ints_cell H2.out (k := 0) (n := sk) (by rw [List.getElem?_set_self (by simp; omega), HSK.out])
      have s4 := H2.out.free (j := 0) (by omega)
      clear s0 s1 s2 t0
      go_wp2
      go_roundw
      case rel =>
        refine ⟨k + 1, by omega, by go_num, ?_, (HR.out.below hbw5 hltg).far (by simp; omega) _, (hbH.out.trans (hbw5.mono (by omega))).setCell (by simp) _⟩
        have h5 := H2.out.setAt (i := 0) (by omega) (.int .i64 (sk + x))
        rw [← map_set_iV, List.set_set] at h5
        rw [hST.out, HSK.out]; exact h5
      case measure => simp [intOf]; omega
    · have g1 : ¬ (k : Int) < N.nodes.length := by omega
      have h6 := H1.out
      rw [show l.take k = l from List.take_of_length_le (by rw [HLN.out]; omega), H0.out, rep_set0] at h6
      have hAW := impl_allWithin (some ⟨w.heap.size + 1, 0, none⟩) N.nodes.length (List.replicate N.nodes.length 0) 0 0 wr h6.rd (by simp; omega)
      rw [List.length_replicate, rep_all0] at hAW
      have HAW := Lib.hid hAW
      clear hbw hA1 hR h6 hAW
      go_wp2_with fail
      refine HAW.out.mono ?_
      rintro e w6 ⟨rfl, rfl⟩
      go_wp2
      go_ret
      exact ⟨rfl, hbH.out⟩
set_option maxRecDepth 100000 in
set_option maxHeartbeats 2000000 in
theorem impl_IsEven (A B C : Option Addr) (n c m d e0 : Nat) (N : Net) (l : List Int) (w : World) (hN : NetAt w A B N) (hn : n = N.nodes.length) (hm : m = N.pipes.length) (hc : n ≤ c) (hO : N.Ok) (hC : Conn N) (h : Rd w C (l.map iV)) (hl : l.length = N.nodes.length) (hs : ∀ x ∈ l, -30000 ≤ x ∧ x ≤ 30000) (h0 : sumF l = 0) :
    Calls Try.prog 14 #[netV A B n c m d, .slice C l.length e0] w fun e w' => e = .returned (.bool true) ∧ Below w.heap.size w w' := by
  subst hn hm
  have HN := Lib.hid hN
  have HO := Lib.hid hO
  have HC := Lib.hid hC
  have HL := Lib.hid h
  have HLN := Lib.hid hl
  have HS := Lib.hid hs
  have H0 := Lib.hid h0
  have hl1 : l.length ≤ 1048576 := by have := hO.n2; omega
  have hln := hN.ln
  have hb1 := netB_t hO
  have hb2 : supB N.nodes.length l = true := by simp [supB, hl, allB_iff.2 hs]
  clear hN hO hC h hl hs h0
  go_enter Try.func14, Try.ntmps14
  go_wp2_with fail
  refine (impl_IsNetwork A B _ c _ d N _ (HN.out.below (by (repeat' (first | (with_reducible exact Below.refl _ _) | (with_reducible assumption) | (with_reducible refine Below.alloc ?_ ?_ _) | (with_reducible refine Below.drew ?_) | (with_reducible refine Below.drewN' ?_ _) | (with_reducible refine Below.setCell ?_ ?_ _) | (refine Below.via ?_ (by with_reducible assumption) ?_) | (with_reducible refine Below.via ?_ (Wd.h _) ?_) | go_size)))) rfl rfl hc).mono ?_
  rintro e w3 ⟨rfl, hb3⟩
  (obtain ⟨hcn, hfn⟩ := bcell hb3; have hz3 := hb3.size; (try simp at hz3); have Ncw0_0 := hcn (w.heap.size) (0) (by first | omega | (simp; done) | (simp; omega)); have Nfw0_0 := hfn (w.heap.size) (0) (by first | omega | (simp; done) | (simp; omega)); have Nhy0 : w.heap.size < w3.heap.size := (by omega); have Ncw0_1 := hcn (w.heap.size) (1) (by first | omega | (simp; done) | (simp; omega)); have Nfw0_1 := hfn (w.heap.size) (1) (by first | omega | (simp; done) | (simp; omega)); simp [go_sem] at Ncw0_0 Nfw0_0 Ncw0_1 Nfw0_1; clear hcn hfn; have cw0_0 := Ncw0_0; have fw0_0 := Nfw0_0; have cw0_1 := Ncw0_1; have fw0_1 := Nfw0_1; have hy0 := Nhy0; clear Ncw0_0 Nfw0_0 Ncw0_1 Nfw0_1 Nhy0)
  go_wp2_with fail
  refine (impl_areSupplies A B C _ c _ d e0 l _ hln (HL.out.below (by (repeat' (first | (with_reducible exact Below.refl _ _) | (with_reducible assumption) | (with_reducible refine Below.alloc ?_ ?_ _) | (with_reducible refine Below.drew ?_) | (with_reducible refine Below.drewN' ?_ _) | (with_reducible refine Below.setCell ?_ ?_ _) | (refine Below.via ?_ (by with_reducible assumption) ?_) | (with_reducible refine Below.via ?_ (Wd.h _) ?_) | go_size)))) hl1).mono ?_
  rintro e w4 ⟨rfl, hb4⟩
  (obtain ⟨hcn, hfn⟩ := bcell hb4; have hz4 := hb4.size; (try simp at hz4); have Ncw0_0 := hcn (w.heap.size) (0) (by first | omega | (simp; done) | (simp; omega)); have Nfw0_0 := hfn (w.heap.size) (0) (by first | omega | (simp; done) | (simp; omega)); have Nhy0 : w.heap.size < w4.heap.size := (by omega); have Ncw0_1 := hcn (w.heap.size) (1) (by first | omega | (simp; done) | (simp; omega)); have Nfw0_1 := hfn (w.heap.size) (1) (by first | omega | (simp; done) | (simp; omega)); simp [go_sem, cw0_0, fw0_0, cw0_1, fw0_1, hy0] at Ncw0_0 Nfw0_0 Ncw0_1 Nfw0_1; clear cw0_0 fw0_0 cw0_1 fw0_1 hy0; clear hcn hfn; have cw0_0 := Ncw0_0; have fw0_0 := Nfw0_0; have cw0_1 := Ncw0_1; have fw0_1 := Nfw0_1; have hy0 := Nhy0; clear Ncw0_0 Nfw0_0 Ncw0_1 Nfw0_1 Nhy0)
  go_wp2_with fail
  refine (impl_isEven A B C _ c _ d e0 N l _ (HN.out.below (by (repeat' (first | (with_reducible exact Below.refl _ _) | (with_reducible assumption) | (with_reducible refine Below.alloc ?_ ?_ _) | (with_reducible refine Below.drew ?_) | (with_reducible refine Below.drewN' ?_ _) | (with_reducible refine Below.setCell ?_ ?_ _) | (refine Below.via ?_ (by with_reducible assumption) ?_) | (with_reducible refine Below.via ?_ (Wd.h _) ?_) | go_size)))) rfl rfl HO.out HC.out (HL.out.below (by (repeat' (first | (with_reducible exact Below.refl _ _) | (with_reducible assumption) | (with_reducible refine Below.alloc ?_ ?_ _) | (with_reducible refine Below.drew ?_) | (with_reducible refine Below.drewN' ?_ _) | (with_reducible refine Below.setCell ?_ ?_ _) | (refine Below.via ?_ (by with_reducible assumption) ?_) | (with_reducible refine Below.via ?_ (Wd.h _) ?_) | go_size)))) HLN.out HS.out H0.out).mono ?_
  rintro e w5 ⟨rfl, hb5⟩
  go_wp2
  go_ret
  exact ⟨rfl, by (repeat' (first | (with_reducible exact Below.refl _ _) | (with_reducible assumption) | (with_reducible refine Below.alloc ?_ ?_ _) | (with_reducible refine Below.drew ?_) | (with_reducible refine Below.drewN' ?_ _) | (with_reducible refine Below.setCell ?_ ?_ _) | (refine Below.via ?_ (by with_reducible assumption) ?_) | (with_reducible refine Below.via ?_ (Wd.h _) ?_) | go_size))⟩
end Go.Proofs.Ytlbidcblpmdgaaa
namespace Go.Proofs.Ytlbidcblpmdgaaa
set_option linter.unusedVariables false
set_option linter.unusedSimpArgs false
open Go.RowKit
set_option maxRecDepth 100000 in
set_option maxHeartbeats 1000000 in
theorem laws_likeInts (A B : Option Addr) (c d n m : Nat) (l : List Int) (w : World) (h : Rd w A (l.map iV)) (h' : Rd w B (l.map iV)) (hn : n = l.length) (hm : m = l.length) (hl : l.length ≤ 1048576) :
    Calls Try.prog 10 #[.slice A n c, .slice B m d] w fun e w' => e = .returned (.bool true) ∧ Below w.heap.size w w' := by
  subst hn hm
  have H := Lib.hid h
  have H' := Lib.hid h'
  clear h h'
  go_enter Try.func10, Try.ntmps10
  go_wp2
  go_loopw [5] (fun v wr => ∃ k : Nat, k ≤ l.length ∧ v = .int .i64 k ∧ Below w.heap.size w wr) (fun v _ => l.length - (intOf v).toNat)
  case atStart => exact ⟨0, by omega, rfl, Below.refl _ _⟩
  case round =>
    obtain ⟨k, hk, rfl, hbw⟩ := hrel
    have hbH := Lib.hid hbw
    by_cases hlt : k < l.length
    · obtain ⟨n, hn⟩ := get_some hlt
      obtain ⟨b, off, rfl, hb, hat⟩ := H.out.opened (k := k) (by simpa using hlt)
      obtain ⟨b', off', rfl, hb', hat'⟩ := H'.out.opened (k := k) (by simpa using hlt)
      have t0 := ints_at (hat.below hbw hb) hn
      have t1 := ints_at (hat'.below hbw hb') hn
      clear hn hat hat' hbw
      go_wp2
      go_quiet (fail)
      go_wp2
      go_roundw
      case rel => exact ⟨k + 1, by omega, by go_num, Below.drewN' hbH.out _⟩
      case measure => simp [intOf]; omega
    · clear hbw
      go_wp2
      go_ret
      exact ⟨rfl, hbH.out⟩
set_option maxRecDepth 100000 in
set_option maxHeartbeats 1000000 in
theorem laws_sum (A : Option Addr) (c n : Nat) (l : List Int) (w : World) (h : Rd w A (l.map iV)) (hn : n = l.length) (hl : l.length ≤ 1048576) (hs : Sml l) :
    Calls Try.prog 12 #[.slice A n c] w fun e w' => e = .returned (.int .i64 (sumF l)) ∧ w = w' := by
  subst hn
  have H := Lib.hid h
  have HS := Lib.hid hs
  clear h hs
  go_enter Try.func12, Try.ntmps12
  go_wp2
  go_loop [3, 4] (fun u v => ∃ (k : Nat) (r : Int), k ≤ l.length ∧ v = .int .i64 k ∧ u = .int .i64 r ∧ -(k * 1000000000000) ≤ r ∧ r ≤ k * 1000000000000 ∧ r + sumF (l.drop k) = sumF l) (fun _ v => l.length - (intOf v).toNat)
  case atStart => exact ⟨0, 0, by omega, rfl, rfl, by omega, by omega, by simp⟩
  case round =>
    obtain ⟨k, r, hk, rfl, rfl, hr0, hr1, hF⟩ := hrel
    have HF := Lib.hid hF
    clear hF
    by_cases hlt : k < l.length
    · obtain ⟨x, hx⟩ := get_some hlt
      obtain ⟨b, off, rfl, hb, hat⟩ := H.out.opened (k := k) (by simpa using hlt)
      have t0 := ints_at hat hx
      have HD := Lib.hid (drop_consI hx)
      obtain ⟨x1, x2⟩ := HS.out x (List.mem_of_getElem? hx)
      have g1 : (k : Int) < l.length := by omega
      clear hx hat
      go_wp2
      go_round
      case rel =>
        refine ⟨k + 1, r + x, by omega, by go_num, rfl, by omega, by omega, ?_⟩
        rw [← HF.out, HD.out, sumF]; omega
      case measure => simp [intOf]; omega
    · go_wp2
      go_ret
      refine ⟨ri ?_, rfl⟩
      have := HF.out
      rw [drop_endI hlt, sumF] at this
      omega
end Go.Proofs.Ytlbidcblpmdgaaa
namespace Go.Proofs.Ytlbidcblpmdgaaa
set_option linter.unusedVariables false
set_option linter.unusedSimpArgs false
open Go.RowKit
theorem laws_bigS (A : Option Addr) (n c : Nat) (w : World) : Calls Try.prog 4 #[.slice A n c] w fun e w' => e = .returned (.bool (decide (4096 < n))) ∧ w = w' := by
  go_enter Try.func4, Try.ntmps4
  go_wp2
  go_ret
  refine ⟨rb ?_, rfl⟩
  simp; omega
set_option maxRecDepth 100000 in
set_option maxHeartbeats 8000000 in
theorem walk_FnNominatedSupplies (w : World) (A0 : Option Addr) (c0 : Nat) (l0 : List Int) (h0 : BytesIn w A0 l0) :
    Calls Try.prog 3 #[.slice A0 l0.length c0] w fun e w' => e = .returned (.bool true) ∧ Below w.heap.size w w' := by
  have HI := Lib.hid h0
  clear h0
  by_cases hbig : 4096 < l0.length
  · have b0 : decide (4096 < l0.length) = true := by simpa using hbig
    go_enter Try.func3, Try.ntmps3
    go_wp2_with ((go_at_call 4; refine (laws_bigS _ _ _ _).mono ?_; rintro e w' ⟨rfl, rfl⟩))
    go_ret
    exact ⟨rfl, by (repeat' (first | (with_reducible exact Below.refl _ _) | (with_reducible assumption) | (with_reducible refine Below.alloc ?_ ?_ _) | (with_reducible refine Below.drew ?_) | (with_reducible refine Below.drewN' ?_ _) | (with_reducible refine Below.setCell ?_ ?_ _) | (refine Below.via ?_ (by with_reducible assumption) ?_) | (with_reducible refine Below.via ?_ (Wd.h _) ?_) | go_size))⟩
  have b0 : decide (4096 < l0.length) = false := by simpa using hbig
  go_enter Try.func3, Try.ntmps3
  go_wp2_with ((go_at_call 4; refine (laws_bigS _ _ _ _).mono ?_; rintro e w' ⟨rfl, rfl⟩))
  
  refine (spec_DrawNominatedSupplies A0 c0 l0 _ (HI.out.below (by (repeat' (first | (with_reducible exact Below.refl _ _) | (with_reducible assumption) | (with_reducible refine Below.alloc ?_ ?_ _) | (with_reducible refine Below.drew ?_) | (with_reducible refine Below.drewN' ?_ _) | (with_reducible refine Below.setCell ?_ ?_ _) | (refine Below.via ?_ (by with_reducible assumption) ?_) | (with_reducible refine Below.via ?_ (Wd.h _) ?_) | go_size)))) (by omega)).mono ?_
  rintro e w1 ⟨A, Bq, Al, An, c, d, cl, cn, N, lb, ln, hr, rfl, hnc, hN, hL, hM, hl33, hok, hn201, hnk, hb1, -, -, -, -⟩
  have hz1 := hb1.size
  have HN := Lib.hid hN
  have HL := Lib.hid hL
  have HM := Lib.hid hM
  obtain ⟨S, code, hS⟩ : ∃ S code, nsR N lb ln hr = (S, code) := ⟨_, _, rfl⟩
  obtain ⟨am, one, hA⟩ : ∃ am one, amR N lb ln hr = (am, one) := ⟨_, _, rfl⟩
  have HS := Lib.hid hS
  have HA := Lib.hid hA
  have hSl : S.length ≤ 1048576 := by have := nsR_len (N := N) (lb := lb) (ln := ln) (hr := hr); rw [hS] at this; exact this
  have hAl : am.length ≤ 1048576 := by have := amR_len (N := N) (lb := lb) (ln := ln) (hr := hr); rw [hA] at this; exact this
  clear hN hL hM hS hA hok hnk
  go_wp2_with fail
  
  refine ((impl_NominatedSupplies A Bq Al An _ c _ d cl cn N lb ln hr _ (HN.out.below (by (repeat' (first | (with_reducible exact Below.refl _ _) | (with_reducible assumption) | (with_reducible refine Below.alloc ?_ ?_ _) | (with_reducible refine Below.drew ?_) | (with_reducible refine Below.drewN' ?_ _) | (with_reducible refine Below.setCell ?_ ?_ _) | (refine Below.via ?_ (by with_reducible assumption) ?_) | (with_reducible refine Below.via ?_ (Wd.h _) ?_) | go_size)))) rfl rfl hnc (HL.out.below (by (repeat' (first | (with_reducible exact Below.refl _ _) | (with_reducible assumption) | (with_reducible refine Below.alloc ?_ ?_ _) | (with_reducible refine Below.drew ?_) | (with_reducible refine Below.drewN' ?_ _) | (with_reducible refine Below.setCell ?_ ?_ _) | (refine Below.via ?_ (by with_reducible assumption) ?_) | (with_reducible refine Below.via ?_ (Wd.h _) ?_) | go_size)))) (by omega) (HM.out.below (by (repeat' (first | (with_reducible exact Below.refl _ _) | (with_reducible assumption) | (with_reducible refine Below.alloc ?_ ?_ _) | (with_reducible refine Below.drew ?_) | (with_reducible refine Below.drewN' ?_ _) | (with_reducible refine Below.setCell ?_ ?_ _) | (refine Below.via ?_ (by with_reducible assumption) ?_) | (with_reducible refine Below.via ?_ (Wd.h _) ?_) | go_size)))) (by omega)).made HS.out).mono ?_
  rintro e w2 ⟨A2, c2, rfl, hc2, hW2, hb2⟩
  have HR2 := Lib.hid hW2.rd
  clear hW2
  (obtain ⟨hcn, hfn⟩ := bcell hb2; have hz2 := hb2.size; (try simp at hz2); have Na_0 := hcn (w1.heap.size) (0) (by first | omega | (simp; done) | (simp; omega)); have Na_0f := hfn (w1.heap.size) (0) (by first | omega | (simp; done) | (simp; omega)); have Nhy_a : w1.heap.size < w2.heap.size := (by omega); have Na_1 := hcn (w1.heap.size) (1) (by first | omega | (simp; done) | (simp; omega)); have Na_1f := hfn (w1.heap.size) (1) (by first | omega | (simp; done) | (simp; omega)); simp [go_sem] at Na_0 Na_0f Na_1 Na_1f; clear hcn hfn; have a_0 := Na_0; have a_0f := Na_0f; have a_1 := Na_1; have a_1f := Na_1f; have hy_a := Nhy_a; clear Na_0 Na_0f Na_1 Na_1f Nhy_a)
  go_wp2_with fail
  refine ((spec_NominatedSupplies A Bq Al An _ c _ d cl cn N lb ln hr _ (HN.out.below (by (repeat' (first | (with_reducible exact Below.refl _ _) | (with_reducible assumption) | (with_reducible refine Below.alloc ?_ ?_ _) | (with_reducible refine Below.drew ?_) | (with_reducible refine Below.drewN' ?_ _) | (with_reducible refine Below.setCell ?_ ?_ _) | (refine Below.via ?_ (by with_reducible assumption) ?_) | (with_reducible refine Below.via ?_ (Wd.h _) ?_) | go_size)))) rfl rfl (HL.out.below (by (repeat' (first | (with_reducible exact Below.refl _ _) | (with_reducible assumption) | (with_reducible refine Below.alloc ?_ ?_ _) | (with_reducible refine Below.drew ?_) | (with_reducible refine Below.drewN' ?_ _) | (with_reducible refine Below.setCell ?_ ?_ _) | (refine Below.via ?_ (by with_reducible assumption) ?_) | (with_reducible refine Below.via ?_ (Wd.h _) ?_) | go_size)))) (by omega) (HM.out.below (by (repeat' (first | (with_reducible exact Below.refl _ _) | (with_reducible assumption) | (with_reducible refine Below.alloc ?_ ?_ _) | (with_reducible refine Below.drew ?_) | (with_reducible refine Below.drewN' ?_ _) | (with_reducible refine Below.setCell ?_ ?_ _) | (refine Below.via ?_ (by with_reducible assumption) ?_) | (with_reducible refine Below.via ?_ (Wd.h _) ?_) | go_size)))) (by omega)).made HS.out).mono ?_
  rintro e w3 ⟨A3, c3, rfl, hc3, hW3, hb3⟩
  have HR3 := Lib.hid hW3.rd
  clear hW3
  (obtain ⟨hcn, hfn⟩ := bcell hb3; have hz3 := hb3.size; (try simp at hz3); have Na_0 := hcn (w1.heap.size) (0) (by first | omega | (simp; done) | (simp; omega)); have Na_0f := hfn (w1.heap.size) (0) (by first | omega | (simp; done) | (simp; omega)); have Nhy_a : w1.heap.size < w3.heap.size := (by omega); have Na_1 := hcn (w1.heap.size) (1) (by first | omega | (simp; done) | (simp; omega)); have Na_1f := hfn (w1.heap.size) (1) (by first | omega | (simp; done) | (simp; omega)); simp [go_sem, a_0, a_0f, a_1, a_1f, hy_a] at Na_0 Na_0f Na_1 Na_1f; clear a_0 a_0f a_1 a_1f hy_a; clear hcn hfn; have a_0 := Na_0; have a_0f := Na_0f; have a_1 := Na_1; have a_1f := Na_1f; have hy_a := Nhy_a; clear Na_0 Na_0f Na_1 Na_1f Nhy_a)
  go_wp2_with fail
  refine ((impl_AmountsIn A Bq Al An _ c _ d cl cn N lb ln hr _ (HN.out.below (by (repeat' (first | (with_reducible exact Below.refl _ _) | (with_reducible assumption) | (with_reducible refine Below.alloc ?_ ?_ _) | (with_reducible refine Below.drew ?_) | (with_reducible refine Below.drewN' ?_ _) | (with_reducible refine Below.setCell ?_ ?_ _) | (refine Below.via ?_ (by with_reducible assumption) ?_) | (with_reducible refine Below.via ?_ (Wd.h _) ?_) | go_size)))) rfl rfl hnc (HL.out.below (by (repeat' (first | (with_reducible exact Below.refl _ _) | (with_reducible assumption) | (with_reducible refine Below.alloc ?_ ?_ _) | (with_reducible refine Below.drew ?_) | (with_reducible refine Below.drewN' ?_ _) | (with_reducible refine Below.setCell ?_ ?_ _) | (refine Below.via ?_ (by with_reducible assumption) ?_) | (with_reducible refine Below.via ?_ (Wd.h _) ?_) | go_size)))) (by omega) (HM.out.below (by (repeat' (first | (with_reducible exact Below.refl _ _) | (with_reducible assumption) | (with_reducible refine Below.alloc ?_ ?_ _) | (with_reducible refine Below.drew ?_) | (with_reducible refine Below.drewN' ?_ _) | (with_reducible refine Below.setCell ?_ ?_ _) | (refine Below.via ?_ (by with_reducible assumption) ?_) | (with_reducible refine Below.via ?_ (Wd.h _) ?_) | go_size)))) (by omega)).made HA.out).mono ?_
  rintro e w4 ⟨A4, c4, rfl, hc4, hW4, hb4⟩
  have HR4 := Lib.hid hW4.rd
  clear hW4
  (obtain ⟨hcn, hfn⟩ := bcell hb4; have hz4 := hb4.size; (try simp at hz4); have Na_0 := hcn (w1.heap.size) (0) (by first | omega | (simp; done) | (simp; omega)); have Na_0f := hfn (w1.heap.size) (0) (by first | omega | (simp; done) | (simp; omega)); have Nhy_a : w1.heap.size < w4.heap.size := (by omega); have Na_1 := hcn (w1.heap.size) (1) (by first | omega | (simp; done) | (simp; omega)); have Na_1f := hfn (w1.heap.size) (1) (by first | omega | (simp; done) | (simp; omega)); simp [go_sem, a_0, a_0f, a_1, a_1f, hy_a] at Na_0 Na_0f Na_1 Na_1f; clear a_0 a_0f a_1 a_1f hy_a; clear hcn hfn; have a_0 := Na_0; have a_0f := Na_0f; have a_1 := Na_1; have a_1f := Na_1f; have hy_a := Nhy_a; clear Na_0 Na_0f Na_1 Na_1f Nhy_a)
  go_wp2_with fail
  refine ((spec_AmountsIn A Bq Al An _ c _ d cl cn N lb ln hr _ (HN.out.below (by (repeat' (first | (with_reducible exact Below.refl _ _) | (with_reducible assumption) | (with_reducible refine Below.alloc ?_ ?_ _) | (with_reducible refine Below.drew ?_) | (with_reducible refine Below.drewN' ?_ _) | (with_reducible refine Below.setCell ?_ ?_ _) | (refine Below.via ?_ (by with_reducible assumption) ?_) | (with_reducible refine Below.via ?_ (Wd.h _) ?_) | go_size)))) rfl rfl (HL.out.below (by (repeat' (first | (with_reducible exact Below.refl _ _) | (with_reducible assumption) | (with_reducible refine Below.alloc ?_ ?_ _) | (with_reducible refine Below.drew ?_) | (with_reducible refine Below.drewN' ?_ _) | (with_reducible refine Below.setCell ?_ ?_ _) | (refine Below.via ?_ (by with_reducible assumption) ?_) | (with_reducible refine Below.via ?_ (Wd.h _) ?_) | go_size)))) (by omega) (HM.out.below (by (repeat' (first | (with_reducible exact Below.refl _ _) | (with_reducible assumption) | (with_reducible refine Below.alloc ?_ ?_ _) | (with_reducible refine Below.drew ?_) | (with_reducible refine Below.drewN' ?_ _) | (with_reducible refine Below.setCell ?_ ?_ _) | (refine Below.via ?_ (by with_reducible assumption) ?_) | (with_reducible refine Below.via ?_ (Wd.h _) ?_) | go_size)))) (by omega)).made HA.out).mono ?_
  rintro e w5 ⟨A5, c5, rfl, hc5, hW5, hb5⟩
  have HR5 := Lib.hid hW5.rd
  clear hW5
  (obtain ⟨hcn, hfn⟩ := bcell hb5; have hz5 := hb5.size; (try simp at hz5); have Na_0 := hcn (w1.heap.size) (0) (by first | omega | (simp; done) | (simp; omega)); have Na_0f := hfn (w1.heap.size) (0) (by first | omega | (simp; done) | (simp; omega)); have Nhy_a : w1.heap.size < w5.heap.size := (by omega); have Na_1 := hcn (w1.heap.size) (1) (by first | omega | (simp; done) | (simp; omega)); have Na_1f := hfn (w1.heap.size) (1) (by first | omega | (simp; done) | (simp; omega)); simp [go_sem, a_0, a_0f, a_1, a_1f, hy_a] at Na_0 Na_0f Na_1 Na_1f; clear a_0 a_0f a_1 a_1f hy_a; clear hcn hfn; have a_0 := Na_0; have a_0f := Na_0f; have a_1 := Na_1; have a_1f := Na_1f; have hy_a := Nhy_a; clear Na_0 Na_0f Na_1 Na_1f Nhy_a)
  go_wp2_with fail
  refine (laws_likeInts A2 A3 c2 c3 _ _ S _ (HR2.out.below (by (repeat' (first | (with_reducible exact Below.refl _ _) | (with_reducible assumption) | (with_reducible refine Below.alloc ?_ ?_ _) | (with_reducible refine Below.drew ?_) | (with_reducible refine Below.drewN' ?_ _) | (with_reducible refine Below.setCell ?_ ?_ _) | (refine Below.via ?_ (by with_reducible assumption) ?_) | (with_reducible refine Below.via ?_ (Wd.h _) ?_) | go_size)))) (HR3.out.below (by (repeat' (first | (with_reducible exact Below.refl _ _) | (with_reducible assumption) | (with_reducible refine Below.alloc ?_ ?_ _) | (with_reducible refine Below.drew ?_) | (with_reducible refine Below.drewN' ?_ _) | (with_reducible refine Below.setCell ?_ ?_ _) | (refine Below.via ?_ (by with_reducible assumption) ?_) | (with_reducible refine Below.via ?_ (Wd.h _) ?_) | go_size)))) rfl rfl hSl).mono ?_
  rintro e w6 ⟨rfl, hb6⟩
  (obtain ⟨hcn, hfn⟩ := bcell hb6; have hz6 := hb6.size; (try simp at hz6); have Na_0 := hcn (w1.heap.size) (0) (by first | omega | (simp; done) | (simp; omega)); have Na_0f := hfn (w1.heap.size) (0) (by first | omega | (simp; done) | (simp; omega)); have Nhy_a : w1.heap.size < w6.heap.size := (by omega); have Na_1 := hcn (w1.heap.size) (1) (by first | omega | (simp; done) | (simp; omega)); have Na_1f := hfn (w1.heap.size) (1) (by first | omega | (simp; done) | (simp; omega)); simp [go_sem, a_0, a_0f, a_1, a_1f, hy_a] at Na_0 Na_0f Na_1 Na_1f; clear a_0 a_0f a_1 a_1f hy_a; clear hcn hfn; have a_0 := Na_0; have a_0f := Na_0f; have a_1 := Na_1; have a_1f := Na_1f; have hy_a := Nhy_a; clear Na_0 Na_0f Na_1 Na_1f Nhy_a)
  go_wp2_with fail
  refine (laws_likeInts A4 A5 c4 c5 _ _ am _ (HR4.out.below (by (repeat' (first | (with_reducible exact Below.refl _ _) | (with_reducible assumption) | (with_reducible refine Below.alloc ?_ ?_ _) | (with_reducible refine Below.drew ?_) | (with_reducible refine Below.drewN' ?_ _) | (with_reducible refine Below.setCell ?_ ?_ _) | (refine Below.via ?_ (by with_reducible assumption) ?_) | (with_reducible refine Below.via ?_ (Wd.h _) ?_) | go_size)))) (HR5.out.below (by (repeat' (first | (with_reducible exact Below.refl _ _) | (with_reducible assumption) | (with_reducible refine Below.alloc ?_ ?_ _) | (with_reducible refine Below.drew ?_) | (with_reducible refine Below.drewN' ?_ _) | (with_reducible refine Below.setCell ?_ ?_ _) | (refine Below.via ?_ (by with_reducible assumption) ?_) | (with_reducible refine Below.via ?_ (Wd.h _) ?_) | go_size)))) rfl rfl hAl).mono ?_
  rintro e w7 ⟨rfl, hb7⟩
  (obtain ⟨hcn, hfn⟩ := bcell hb7; have hz7 := hb7.size; (try simp at hz7); have Na_0 := hcn (w1.heap.size) (0) (by first | omega | (simp; done) | (simp; omega)); have Na_0f := hfn (w1.heap.size) (0) (by first | omega | (simp; done) | (simp; omega)); have Nhy_a : w1.heap.size < w7.heap.size := (by omega); have Na_1 := hcn (w1.heap.size) (1) (by first | omega | (simp; done) | (simp; omega)); have Na_1f := hfn (w1.heap.size) (1) (by first | omega | (simp; done) | (simp; omega)); simp [go_sem, a_0, a_0f, a_1, a_1f, hy_a] at Na_0 Na_0f Na_1 Na_1f; clear a_0 a_0f a_1 a_1f hy_a; clear hcn hfn; have a_0 := Na_0; have a_0f := Na_0f; have a_1 := Na_1; have a_1f := Na_1f; have hy_a := Nhy_a; clear Na_0 Na_0f Na_1 Na_1f Nhy_a)
  by_cases e0 : code = 0
  · subst e0
    obtain ⟨am', hz⟩ := ns_zero HS.out
    obtain ⟨rfl, rfl⟩ : am' = am ∧ one = 0 := by
      have h1 := hz.am_
      rw [HA.out] at h1
      injection h1 with h1 h2
      exact ⟨h1.symm, h2⟩
    have hal := hz.al
    have HZ := Lib.hid hz
    have HB7 := Lib.hid (show Below w.heap.size w w7 by (repeat' (first | (with_reducible exact Below.refl _ _) | (with_reducible assumption) | (with_reducible refine Below.alloc ?_ ?_ _) | (with_reducible refine Below.drew ?_) | (with_reducible refine Below.drewN' ?_ _) | (with_reducible refine Below.setCell ?_ ?_ _) | (refine Below.via ?_ (by with_reducible assumption) ?_) | (with_reducible refine Below.via ?_ (Wd.h _) ?_) | go_size)))
    have HN7 := Lib.hid (HN.out.below (show Below w1.heap.size w1 w7 by (repeat' (first | (with_reducible exact Below.refl _ _) | (with_reducible assumption) | (with_reducible refine Below.alloc ?_ ?_ _) | (with_reducible refine Below.drew ?_) | (with_reducible refine Below.drewN' ?_ _) | (with_reducible refine Below.setCell ?_ ?_ _) | (refine Below.via ?_ (by with_reducible assumption) ?_) | (with_reducible refine Below.via ?_ (Wd.h _) ?_) | go_size))))
    have HL7 := Lib.hid (HL.out.below (show Below w1.heap.size w1 w7 by (repeat' (first | (with_reducible exact Below.refl _ _) | (with_reducible assumption) | (with_reducible refine Below.alloc ?_ ?_ _) | (with_reducible refine Below.drew ?_) | (with_reducible refine Below.drewN' ?_ _) | (with_reducible refine Below.setCell ?_ ?_ _) | (refine Below.via ?_ (by with_reducible assumption) ?_) | (with_reducible refine Below.via ?_ (Wd.h _) ?_) | go_size))))
    have HM7 := Lib.hid (HM.out.below (show Below w1.heap.size w1 w7 by (repeat' (first | (with_reducible exact Below.refl _ _) | (with_reducible assumption) | (with_reducible refine Below.alloc ?_ ?_ _) | (with_reducible refine Below.drew ?_) | (with_reducible refine Below.drewN' ?_ _) | (with_reducible refine Below.setCell ?_ ?_ _) | (refine Below.via ?_ (by with_reducible assumption) ?_) | (with_reducible refine Below.via ?_ (Wd.h _) ?_) | go_size))))
    have HR25 := Lib.hid (HR2.out.below (show Below w2.heap.size w2 w7 by (repeat' (first | (with_reducible exact Below.refl _ _) | (with_reducible assumption) | (with_reducible refine Below.alloc ?_ ?_ _) | (with_reducible refine Below.drew ?_) | (with_reducible refine Below.drewN' ?_ _) | (with_reducible refine Below.setCell ?_ ?_ _) | (refine Below.via ?_ (by with_reducible assumption) ?_) | (with_reducible refine Below.via ?_ (Wd.h _) ?_) | go_size))))
    have HR57 := Lib.hid (HR5.out.below (show Below w5.heap.size w5 w7 by (repeat' (first | (with_reducible exact Below.refl _ _) | (with_reducible assumption) | (with_reducible refine Below.alloc ?_ ?_ _) | (with_reducible refine Below.drew ?_) | (with_reducible refine Below.drewN' ?_ _) | (with_reducible refine Below.setCell ?_ ?_ _) | (refine Below.via ?_ (by with_reducible assumption) ?_) | (with_reducible refine Below.via ?_ (Wd.h _) ?_) | go_size))))
    have HX7 := Lib.hid (show Bx w7 w1.heap.size [.slice A N.nodes.length c, .slice Bq N.pipes.length d] from bx2 hy_a a_0 a_0f a_1 a_1f)
    have HAL := Lib.hid hal
    clear hz hal
    go_wp2_with fail
    go_loopw [15] (fun v wr => ∃ k : Nat, k ≤ lb.length ∧ v = .int .i64 k ∧ Below w7.heap.size w7 wr) (fun v _ => lb.length - (intOf v).toNat)
    case atStart => exact ⟨0, by omega, rfl, Below.refl _ _⟩
    case round =>
      clear hy_a a_0 a_0f a_1 a_1f
      obtain ⟨k, hk, rfl, hbw⟩ := hrel
      have hbH := Lib.hid hbw
      have hzw := hbw.size
      have hbx := HX7.out.below hbw HX7.out.lt
      have r0 := hbx.cell 0 rfl
      have r1 := hbx.cell 1 rfl
      have ry := hbx.lt
      clear hbx
      by_cases hlt : k < lb.length
      · obtain ⟨a, ha⟩ := get_some (l := am') (k := k) (by rw [HAL.out]; exact hlt)
        obtain ⟨x, z, hn⟩ : ∃ x z, nfR N lb ln k hr = (x, z) := ⟨_, _, rfl⟩
        have hcase := HZ.out.nf k a x z hlt ha hn
        have HNF := Lib.hid hn
        have g1 : (k : Int) < lb.length := by omega
        have g2 : (k : Int) < am'.length := by rw [HAL.out]; omega
        obtain ⟨b, off, hA5, hb, hat⟩ := HR57.out.opened (k := k) (by rw [List.length_map, HAL.out]; exact hlt)
        have HT := Lib.hid (And.intro hb (And.intro hat ha))
        clear hn ha hat hbw
        go_wp2_with fail
        refine (impl_NominatedFor A Bq Al An _ c _ d cl cn N lb ln k hr _ (HN7.out.below hbH.out) rfl rfl hnc (HL7.out.below hbH.out) (by omega) (HM7.out.below hbH.out) (by omega)).mono ?_
        rintro e w8 ⟨rfl, hb8⟩
        rw [HNF.out]
        have hbn := hbH.out.trans (hb8.mono hzw)
        have t0 := ints_at (HT.out.2.1.below hbn HT.out.1) HT.out.2.2
        have HBN := Lib.hid hbn
        clear hbn hb8
        subst hA5
        rcases hcase with ⟨rfl, rfl⟩ | ⟨hz0, rfl⟩
        · go_wp2
          go_roundw
          case rel => exact ⟨k + 1, by omega, by go_num, HBN.out⟩
          case measure => simp [intOf]; omega
        · have b1 : (z == 0) = false := by simpa using hz0
          have b2 : (z != 0) = true := by simpa using hz0
          go_wp2
          go_roundw
          case rel => exact ⟨k + 1, by omega, by go_num, HBN.out⟩
          case measure => simp [intOf]; omega
      · have g1 : ¬ (k : Int) < lb.length := by omega
        clear hbw
        go_wp2_with fail
        refine (laws_sum A2 c2 _ S _ (HR25.out.below hbH.out) rfl hSl (fun x hx => by have := HZ.out.sb x hx; omega)).mono ?_
        rintro e w8 ⟨rfl, rfl⟩
        rw [HZ.out.s0]
        go_wp2_with fail
        refine (spec_IsConnected A Bq _ c _ d N _ (HN7.out.below hbH.out) rfl rfl HZ.out.ok).mono ?_
        rintro e w9 ⟨b, rfl, hcn, hb9⟩
        have HCN := Lib.hid hcn
        have HB9 := Lib.hid (hbH.out.trans (hb9.mono hzw))
        have hbx := (HX7.out.below HB9.out HX7.out.lt)
        have q0 := hbx.cell 0 rfl
        have q1 := hbx.cell 1 rfl
        clear hcn hb9 hbx r0 r1
        cases b
        · go_wp2
          go_ret
          exact ⟨rfl, HB7.out.trans (HB9.out.mono HB7.out.size)⟩
        · go_wp2_with fail
          refine (impl_IsEven A Bq A2 _ c _ d c2 N S _ (HN7.out.below HB9.out) rfl rfl hnc HZ.out.ok (HCN.out (by simp)) (HR25.out.below HB9.out) HZ.out.sl HZ.out.sb HZ.out.s0).mono ?_
          rintro e w10 ⟨rfl, hb10⟩
          go_wp2
          go_ret
          exact ⟨rfl, (HB7.out.trans (HB9.out.mono HB7.out.size)).trans (hb10.mono (Nat.le_trans HB7.out.size HB9.out.size))⟩
  · have b1 : (code != 0) = true := by simp [e0]
    go_wp2
    go_ret
    exact ⟨rfl, by (repeat' (first | (with_reducible exact Below.refl _ _) | (with_reducible assumption) | (with_reducible refine Below.alloc ?_ ?_ _) | (with_reducible refine Below.drew ?_) | (with_reducible refine Below.drewN' ?_ _) | (with_reducible refine Below.setCell ?_ ?_ _) | (refine Below.via ?_ (by with_reducible assumption) ?_) | (with_reducible refine Below.via ?_ (Wd.h _) ?_) | go_size))⟩
end Go.Proofs.Ytlbidcblpmdgaaa
