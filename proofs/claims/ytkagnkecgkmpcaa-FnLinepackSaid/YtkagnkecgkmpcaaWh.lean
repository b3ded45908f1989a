/- The region that appends a drawn number to a slice of the call's own: what holds while its operations come up. -/
import Derived.Test.YtkagnkecgkmpcaaDc
import Derived.Test.YtkagnkecgkmpcaaDa
namespace Go.Proofs.Ytkagnkecgkmpcaa
set_option linter.unusedVariables false
set_option linter.unusedSimpArgs false
open Go.RowKit
theorem Dice.far {w w' : World} {q G : Nat} {v v' : Value} (h : Dice w q G) (hf : Far w w' v v') (hb : Below G w w') (hv : v.ownBlock ≠ some q) : Dice w' q G := by
  obtain ⟨A, c, l, i, h, hB, i0, i1, hr, hby, hl, h0, h1, hG, hne⟩ := h.st
  refine ⟨A, c, l, i, h, hf.bxx hB hv, i0, i1, fun hx => ?_, hby, hl, h0, h1, hG, hne⟩
  obtain ⟨b, off, e, hlt, hat⟩ := hr hx
  have := hne b off e (by simpa using hx)
  exact ⟨b, off, e, Nat.lt_of_lt_of_le hlt hb.size, hat.below hb this⟩
/-- kc: the draw; kl: the new element lies alone; ka: the append -/
structure WH (kc kl ka q G : Nat) (n : Int) (v : Value) (m : Nat) (xs : List Value) (F : Int → Int) (w9 : World) (L : Nat → Bool) (ρ : Nat × Value × Int) (w : World) : Prop where
  bl : Below G w9 w
  dc : Dice w q G
  r : L kc = true → 0 ≤ ρ.2.2 ∧ ρ.2.2 < n
  own : L ka = false → Own w G 2 1 v m xs
  own2 : L ka = true → Own w G 2 1 ρ.2.1 (m + 1) (xs ++ [iV (F ρ.2.2)]) ∧ ρ.2.1.ownBlock ≠ some q
  lit : L ka = false → L kl = true → w9.heap.size ≤ ρ.1 ∧ Bx w ρ.1 [iV (F ρ.2.2)]
variable {kc kl ka q G m : Nat} {n : Int} {v : Value} {xs : List Value} {F : Int → Int} {w9 w w' : World} {L : Nat → Bool} {ρ : Nat × Value × Int}
theorem WH.start (h1 : Below G w9 w) (h2 : Dice w q G) (h3 : Own w G 2 1 v m xs) : WH kc kl ka q G n v m xs F w9 (fun _ => false) ρ w :=
  ⟨h1, h2, (fun h => by cases h), fun _ => h3, (fun h => by cases h), (fun _ h => by cases h)⟩
theorem WH.pure (h : WH kc kl ka q G n v m xs F w9 L ρ w) {i : Nat} (h1 : kc ≠ i) (h2 : kl ≠ i) (h3 : ka ≠ i) : WH kc kl ka q G n v m xs F w9 (upd L i) ρ w := by
  constructor <;> try simp only [upd_ne h1, upd_ne h2, upd_ne h3]
  · exact h.bl
  · exact h.dc
  · exact h.r
  · exact h.own
  · exact h.own2
  · exact h.lit
theorem WH.call (h : WH kc kl ka q G n v m xs F w9 L ρ w) (h1 : kl ≠ kc) (h2 : ka ≠ kc) (n1 : L kl = false) (n2 : L ka = false) (hq : q < w9.heap.size) (hv : v.ownBlock ≠ some q) (hk : Keep (· = q) w w') (hd : Dice w' q G) {r : Int} (ra : 0 ≤ r) (rb : r < n) : WH kc kl ka q G n v m xs F w9 (upd L kc) (ρ.1, ρ.2.1, r) w' := by
  constructor <;> try simp only [upd_ne h1, upd_ne h2, upd_self]
  · exact h.bl.trans ⟨hk.os, hk.tape, hk.output, hk.size, fun k z => hk.block k (by have := h.bl.size; have := hd.le; omega) (by have := hd.le; omega)⟩
  · exact hd
  · exact fun _ => ⟨ra, rb⟩
  · intro z; exact (h.own n2).keepg hk hv
  · intro z; rw [n2] at z; cases z
  · intro _ z; rw [n1] at z; cases z
theorem WH.made (h : WH kc kl ka q G n v m xs F w9 L ρ w) (h1 : kc ≠ kl) (h2 : ka ≠ kl) (n2 : L ka = false) (hq : q < w9.heap.size) (hb : Below w.heap.size w w') (hx : Bx w' w.heap.size [iV (F ρ.2.2)]) : WH kc kl ka q G n v m xs F w9 (upd L kl) (w.heap.size, ρ.2.1, ρ.2.2) w' := by
  have hG := h.dc.le
  have hs := h.bl.size
  constructor <;> try simp only [upd_ne h1, upd_ne h2, upd_self]
  · exact h.bl.trans (hb.mono (by omega))
  · exact h.dc.below hb
  · exact h.r
  · intro z; exact (h.own z).below hb (Nat.le_refl _)
  · intro z; rw [n2] at z; cases z
  · exact fun _ _ => ⟨hs, hx⟩
theorem WH.app (h : WH kc kl ka q G n v m xs F w9 L ρ w) (h1 : kc ≠ ka) (h2 : kl ≠ ka) (n2 : L ka = false) (hq : q < w9.heap.size) (hv : v.ownBlock ≠ some q) {v' : Value} (ho : Own w' G 2 1 v' (m + 1) (xs ++ [iV (F ρ.2.2)])) (hb : Below G w w') (hf : Far w w' v v') : WH kc kl ka q G n v m xs F w9 (upd L ka) (ρ.1, v', ρ.2.2) w' := by
  have hs := h.bl.size
  constructor <;> try simp only [upd_ne h1, upd_ne h2, upd_self]
  · exact h.bl.trans hb
  · exact h.dc.far hf hb hv
  · exact h.r
  · intro z; cases z
  · refine fun _ => ⟨ho, fun e => ?_⟩
    rcases hf.lie q e with h3 | h3
    · exact hv h3
    · omega
  · intro z; cases z
end Go.Proofs.Ytkagnkecgkmpcaa
