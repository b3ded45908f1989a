/- The region that follows the plan with one hour more: what holds while its operations come up. -/
import Derived.Test.YtioboahhiklolaaRgt
import Derived.Test.YtioboahhiklolaaAp2
namespace Go.Proofs.Ytioboahhiklolaa
set_option linter.unusedVariables false
set_option linter.unusedSimpArgs false
open Go.RowKit
theorem Far.bx {w w' : World} {v v' : Value} {b : Nat} {cs : List Value} (h : Far w w' v v') (hb : Bx w b cs) (hv : v.ownBlock ≠ some b) : Bx w' b cs := by
  have e := h.grow.block b hb.1 (fun e => hv e.symm)
  refine ⟨?_, fun k u q => ⟨?_, ?_⟩⟩
  · rcases Nat.lt_or_ge b w'.heap.size with hlt | hge
    · exact hlt
    · rw [Array.getElem?_eq_none hge] at e
      have := hb.1
      simp [this] at e
  · exact (World.cell?_of_block (w := w) e).trans (hb.2 k u q).1
  · exact (World.frozen?_of_block (w := w) e).trans (hb.2 k u q).2
structure WG (base b11 : Nat) (c11 : List Value) (v : Value) (m : Nat) (xs : List Value) (c2 : List Value) (w9 : World) (L : Nat → Bool) (ρ : Nat × Value × Nat) (w : World) : Prop where
  bl : Below base w9 w
  b11 : Bx w b11 c11
  own : L 3 = false → Own w base 2 1 v m xs
  own2 : L 10 = false → L 3 = true → Own w base 2 1 ρ.2.1 (m + 1) (xs ++ [iV 30000])
  lit : L 3 = false → L 2 = true → w9.heap.size ≤ ρ.1 ∧ Bx w ρ.1 [iV 30000]
  box : L 9 = true → w9.heap.size ≤ ρ.2.2 ∧ ∃ y0 y1 y2 y3 y4, Bx w ρ.2.2 [y0, y1, y2, y3, y4]
  box2 : L 10 = true → Bx w ρ.2.2 c2
variable {base b11 m : Nat} {c11 : List Value} {v : Value} {xs c2 : List Value} {w9 w w' : World} {L : Nat → Bool} {ρ : Nat × Value × Nat}
theorem WG.start (h1 : Below base w9 w) (h2 : Bx w b11 c11) (h3 : Own w base 2 1 v m xs) : WG base b11 c11 v m xs c2 w9 (fun _ => false) ρ w :=
  ⟨h1, h2, fun _ => h3, (fun _ h => by cases h), (fun _ h => by cases h), (fun h => by cases h), (fun h => by cases h)⟩
theorem WG.pure (h : WG base b11 c11 v m xs c2 w9 L ρ w) {i : Nat} (h1 : 2 ≠ i) (h2 : 3 ≠ i) (h3 : 9 ≠ i) (h4 : 10 ≠ i) : WG base b11 c11 v m xs c2 w9 (upd L i) ρ w := by
  constructor <;> try simp only [upd_ne h1, upd_ne h2, upd_ne h3, upd_ne h4]
  · exact h.bl
  · exact h.b11
  · exact h.own
  · exact h.own2
  · exact h.lit
  · exact h.box
  · exact h.box2
theorem WG.below (h : WG base b11 c11 v m xs c2 w9 L ρ w) (hB : base ≤ w.heap.size) (hb : Below w.heap.size w w') : WG base b11 c11 v m xs c2 w9 L ρ w' := by
  constructor
  · exact h.bl.trans (hb.mono hB)
  · exact h.b11.below hb h.b11.lt
  · intro q; exact (h.own q).below hb (Nat.le_refl _)
  · intro q r; exact (h.own2 q r).below hb (Nat.le_refl _)
  · intro r q; exact ⟨(h.lit r q).1, (h.lit r q).2.below hb (h.lit r q).2.lt⟩
  · intro q; obtain ⟨a, y0, y1, y2, y3, y4, c⟩ := h.box q; exact ⟨a, y0, y1, y2, y3, y4, c.below hb c.lt⟩
  · intro q; exact (h.box2 q).below hb (h.box2 q).lt
theorem WG.made (h : WG base b11 c11 v m xs c2 w9 L ρ w) (hB : base ≤ w.heap.size) (hb : Below w.heap.size w w') (hx : Bx w' w.heap.size [iV 30000]) : WG base b11 c11 v m xs c2 w9 (upd L 2) (w.heap.size, ρ.2.1, ρ.2.2) w' := by
  have hs := h.bl.size
  have h := h.below hB hb
  constructor <;> try simp only [upd_ne (L := L) (i := 2) (j := 3) (by omega), upd_ne (L := L) (i := 2) (j := 9) (by omega), upd_ne (L := L) (i := 2) (j := 10) (by omega), upd_self]
  · exact h.bl
  · exact h.b11
  · exact h.own
  · exact h.own2
  · exact fun _ _ => ⟨hs, hx⟩
  · exact h.box
  · exact h.box2
theorem WG.boxed (h : WG base b11 c11 v m xs c2 w9 L ρ w) (hB : base ≤ w.heap.size) (h10 : L 10 = false) (hb : Below w.heap.size w w') {y0 y1 y2 y3 y4 : Value} (hx : Bx w' w.heap.size [y0, y1, y2, y3, y4]) : WG base b11 c11 v m xs c2 w9 (upd L 9) (ρ.1, ρ.2.1, w.heap.size) w' := by
  have hs := h.bl.size
  have h := h.below hB hb
  constructor <;> try simp only [upd_ne (L := L) (i := 9) (j := 3) (by omega), upd_ne (L := L) (i := 9) (j := 2) (by omega), upd_ne (L := L) (i := 9) (j := 10) (by omega), upd_self]
  · exact h.bl
  · exact h.b11
  · exact h.own
  · exact h.own2
  · exact h.lit
  · exact fun _ => ⟨hs, _, _, _, _, _, hx⟩
  · intro q; rw [h10] at q; cases q
theorem WG.app (h : WG base b11 c11 v m xs c2 w9 L ρ w) (h10 : L 10 = false) (hB : base ≤ w9.heap.size) (h0 : Own w9 base 2 1 v m xs) (hv : v.ownBlock ≠ some b11) {v' : Value} (ho : Own w' base 2 1 v' (m + 1) (xs ++ [iV 30000])) (hb : Below base w w') (hf : Far w w' v v') : WG base b11 c11 v m xs c2 w9 (upd L 3) (ρ.1, v', ρ.2.2) w' := by
  have hn : ∀ b, w9.heap.size ≤ b → v.ownBlock ≠ some b := fun b hb => h0.ne (Or.inr hb)
  constructor <;> try simp only [upd_ne (L := L) (i := 3) (j := 9) (by omega), upd_ne (L := L) (i := 3) (j := 2) (by omega), upd_ne (L := L) (i := 3) (j := 10) (by omega), upd_self]
  · exact h.bl.trans hb
  · exact hf.bx h.b11 hv
  · intro q; cases q
  · exact fun _ _ => ho
  · intro q; cases q
  · intro q; obtain ⟨a, y0, y1, y2, y3, y4, c⟩ := h.box q; exact ⟨a, y0, y1, y2, y3, y4, hf.bx c (hn _ a)⟩
  · intro q; rw [h10] at q; cases q
theorem WG.store (h : WG base b11 c11 v m xs c2 w9 L ρ w) (h9 : L 9 = true) (h3 : L 3 = true) (h11 : b11 < w9.heap.size) (hB : base ≤ w9.heap.size) (hk : Keep (· = ρ.2.2) w w') {z0 z1 z2 z3 z4 : Value} (hc : c2 = [z0, z1, z2, z3, z4]) (hx : Bx w' ρ.2.2 c2) : WG base b11 c11 v m xs c2 w9 (upd L 10) ρ w' := by
  have hg := (h.box h9).1
  constructor <;> try simp only [upd_ne (L := L) (i := 10) (j := 9) (by omega), upd_ne (L := L) (i := 10) (j := 2) (by omega), upd_ne (L := L) (i := 10) (j := 3) (by omega), upd_self]
  · exact h.bl.trans ⟨hk.os, hk.tape, hk.output, hk.size, fun k q => hk.block k (by have := h.bl.size; omega) (by omega)⟩
  · exact h.b11.keep hk (by omega)
  · intro q; rw [h3] at q; cases q
  · intro q; cases q
  · intro q; rw [h3] at q; cases q
  · exact fun _ => ⟨hg, z0, z1, z2, z3, z4, hc ▸ hx⟩
  · exact fun _ => hx
end Go.Proofs.Ytioboahhiklolaa
