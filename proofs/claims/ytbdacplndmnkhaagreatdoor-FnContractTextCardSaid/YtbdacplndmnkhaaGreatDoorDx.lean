/- Storing into a slice of the call's own; regions that store a drawn element into a drawn network. -/
import Derived.Test.YtbdacplndmnkhaaGreatDoorDw
import Derived.Test.YtbdacplndmnkhaaGreatDoorRgt
namespace Go.Proofs.YtbdacplndmnkhaaGreatDoor
set_option linter.unusedVariables false
set_option linter.unusedSimpArgs false
open Go.RowKit
theorem Own.set {w : World} {base g n c s : Nat} {e : TypeId} {xs : List Value} (h : Own w base e s (.slice (some ⟨g, 0, none⟩) n c) n xs) (j : Nat) (hj : j < xs.length) (u : Value) : Own (w.setCell ⟨g, j, none⟩ u) base e s (.slice (some ⟨g, 0, none⟩) n c) n (xs.set j u) := by
  refine ⟨by simpa using h.1, ?_⟩
  rcases h.2 with ⟨h0, h1⟩ | ⟨g', cap, cur, hv, hg, hh, hn, hm, hs, ht⟩
  · exact .inl ⟨h0, h1⟩
  · injection hv with e1 e2 e3
    injection e1 with e1
    injection e1 with e1
    subst e1
    refine .inr ⟨g, cap, cur.setIfInBounds j u, by rw [e3], hg, ?_, hn, hm, by simpa using hs, ?_⟩
    · exact Blk.set_ (show Blk w g e cur from hh) j u
    · rw [Array.toList_setIfInBounds, ← ht, List.take_set]
theorem flat_set {α : Type} {f : α → List Value} {s : Nat} (hf : ∀ x, (f x).length = s) : ∀ (l : List α) (k o : Nat) (x x' : α) (u : Value), l[k]? = some x → o < s → f x' = (f x).set o u → (l.flatMap f).set (s * k + o) u = (l.set k x').flatMap f
  | [], k, o, x, x', u, h, _, _ => by simp at h
  | y :: l, 0, o, x, x', u, h, ho, hx => by
    simp at h; subst h
    simp only [List.flatMap_cons, Nat.mul_zero, Nat.zero_add, List.set_cons_zero]
    rw [List.set_append_left _ _ (by rw [hf]; exact ho), hx]
  | y :: l, k + 1, o, x, x', u, h, ho, hx => by
    simp only [List.flatMap_cons, List.set_cons_succ]
    have hk : s * (k + 1) + o = (f y).length + (s * k + o) := by rw [hf, Nat.mul_succ]; omega
    rw [hk, List.set_append_right _ _ (by omega), Nat.add_sub_cancel_left, flat_set hf l k o x x' u (by simpa using h) ho hx]
/-- kb: the list is built; kc: the draw; ks: the store -/
structure WT (kb kc ks p : Nat) (g : Nat) (n : Int) (TA : World → Prop) (TB : Int → World → Prop) (arr : List Value) (w0 : World) (L : Nat → Bool) (ρ : Nat × Int) (w : World) : Prop where
  kp : Keep (fun k => k = p ∨ k = g) w0 w
  t0 : L ks = false → TA w
  t1 : L ks = true → TB ρ.2 w
  rr : L kc = true → 0 ≤ ρ.2 ∧ ρ.2 < n
  ar : L ks = false → L kb = true → w0.heap.size ≤ ρ.1 ∧ Bx w ρ.1 arr
variable {kb kc ks p g : Nat} {n : Int} {TA : World → Prop} {TB : Int → World → Prop} {arr : List Value} {w0 w w' : World} {L : Nat → Bool} {ρ : Nat × Int}
theorem WT.start (hk : Keep (fun k => k = p ∨ k = g) w0 w) (hb : TA w) : WT kb kc ks p g n TA TB arr w0 (fun _ => false) ρ w :=
  ⟨hk, fun _ => hb, (fun h => by cases h), (fun h => by cases h), (fun _ h => by cases h)⟩
theorem WT.pure (h : WT kb kc ks p g n TA TB arr w0 L ρ w) {i : Nat} (h1 : kb ≠ i) (h2 : kc ≠ i) (h3 : ks ≠ i) : WT kb kc ks p g n TA TB arr w0 (upd L i) ρ w := by
  constructor <;> try simp only [upd_ne h1, upd_ne h2, upd_ne h3]
  · exact h.kp
  · exact h.t0
  · exact h.t1
  · exact h.rr
  · exact h.ar
theorem WT.call (h : WT kb kc ks p g n TA TB arr w0 L ρ w) (hp : p < w0.heap.size) (h1 : kb ≠ kc) (h2 : ks ≠ kc) (hks : L ks = false) (hk : Keep (· = p) w w') (ht : TA w') {r : Int} (ra : 0 ≤ r) (rb : r < n) : WT kb kc ks p g n TA TB arr w0 (upd L kc) (ρ.1, r) w' := by
  constructor <;> try simp only [upd_ne h1, upd_ne h2, upd_self]
  · exact h.kp.trans (hk.wide fun k q => Or.inl q)
  · exact fun _ => ht
  · intro q; rw [hks] at q; cases q
  · exact fun _ => ⟨ra, rb⟩
  · intro z q; exact ⟨(h.ar z q).1, (h.ar z q).2.keep hk (by have := (h.ar z q).1; omega)⟩
theorem WT.alloc (h : WT kb kc ks p g n TA TB arr w0 L ρ w) (h1 : kc ≠ kb) (h2 : ks ≠ kb) (hks : L ks = false) (hb : Below w.heap.size w w') (ht : TA w') (hx : Bx w' w.heap.size arr) : WT kb kc ks p g n TA TB arr w0 (upd L kb) (w.heap.size, ρ.2) w' := by
  constructor <;> try simp only [upd_ne h1, upd_ne h2, upd_self]
  · exact h.kp.trans (Keep.of_below _ hb)
  · exact fun _ => ht
  · intro q; rw [hks] at q; cases q
  · exact h.rr
  · exact fun _ _ => ⟨h.kp.size, hx⟩
theorem WT.store (h : WT kb kc ks p g n TA TB arr w0 L ρ w) (h1 : kb ≠ ks) (h2 : kc ≠ ks) (hb : Keep (· = g) w w') (ht : TB ρ.2 w') : WT kb kc ks p g n TA TB arr w0 (upd L ks) ρ w' := by
  constructor <;> try simp only [upd_ne h1, upd_ne h2, upd_self]
  · exact h.kp.trans (hb.wide fun k q => Or.inr q)
  · intro q; cases q
  · exact fun _ => ht
  · exact h.rr
  · intro z; cases z
end Go.Proofs.YtbdacplndmnkhaaGreatDoor
