/- A drawn region by a table of its values; a field set to a drawn element of a list. -/
import Derived.Test.YtbdacplndmnkhaaGreatDoorRgo
import Derived.Test.YtbdacplndmnkhaaGreatDoorDr
namespace Go.Proofs.YtbdacplndmnkhaaGreatDoor
set_option linter.unusedVariables false
set_option linter.unusedSimpArgs false
open Go.RowKit
def put (u : Nat → Value) (i : Nat) (v : Value) : Nat → Value := fun j => if j = i then v else u j
theorem wp_region_tab {P : Program} {ops : Array Oper} {Q : Exit → Act → World → Prop} {id : Nat} {a : Act} {w : World} {R : Type} (fr : (Nat → Value) → Act) (E : R → Nat → Value) (W : (Nat → Bool) → R → World → Prop)
    (hm : P.follows .mixedOrders = true) (he : elder ops = true) (u0 : Nat → Value) (ha : a = fr u0) (ρ0 : R) (h0 : W (fun _ => false) ρ0 { w with drawn := w.drawn + 1 })
    (hstep : ∀ i, i < ops.size → ∀ L ρ u w, L i = false → (before ops i).all L = true → (∀ j, L j = true → (before ops j).all L = true) → (∀ j, L j = true → u j = E ρ j) → W L ρ w →
      wpOp P ops Q i (fun a' w' => ∃ ρ', a' = fr (put u i (E ρ' i)) ∧ (∀ j, L j = true → E ρ' j = E ρ j) ∧ W (upd L i) ρ' w') (fr u) w)
    (hdone : ∀ L ρ u w, (∀ i, i < ops.size → L i = true) → (∀ i, i < ops.size → u i = E ρ i) → W L ρ w → Q .normal (fr u) w) : (Code.region id ops true).wp P Q a w := by
  subst ha
  refine wp_region_inv' (fun L a w => ∃ ρ u, a = fr u ∧ (∀ j, L j = true → (before ops j).all L = true) ∧ (∀ j, L j = true → u j = E ρ j) ∧ W L ρ w) hm he ⟨ρ0, u0, rfl, (fun _ h => by cases h), (fun _ h => by cases h), h0⟩ ?_ ?_
  · rintro i hi L a w hl hp ⟨ρ, u, rfl, hc, hu, hW⟩
    refine wpOp_mono (fun a' w' h => ?_) (hstep i hi L ρ u w hl hp hc hu hW)
    obtain ⟨ρ', rfl, hE, hW'⟩ := h
    refine ⟨ρ', _, rfl, fun j hj => ?_, fun j hj => ?_, hW'⟩
    · rcases upd_cases hj with h | rfl
      · exact List.all_eq_true.2 fun e he => upd_of (List.all_eq_true.1 (hc j h) e he)
      · exact List.all_eq_true.2 fun e he => upd_of (List.all_eq_true.1 hp e he)
    · by_cases hji : j = i
      · subst hji; simp [put]
      · rw [upd_ne hji] at hj; simp only [put, if_neg hji]; rw [hu j hj, hE j hj]
  · rintro L a w hall ⟨ρ, u, rfl, _, hu, hW⟩
    exact hdone L ρ u w hall (fun i hi => hu i (hall i hi)) hW
theorem no_later {ops : Array Oper} {L : Nat → Bool} {i k : Nat} (hc : ∀ j, L j = true → (before ops j).all L = true) (hi : L i = false) (hm : (before ops k).contains i = true) : L k = false := by
  cases h : L k with
  | false => rfl
  | true => have := List.all_eq_true.1 (hc k h) i (by simpa using hm); rw [hi] at this; cases this
theorem all_of {l : List Nat} {L : Nat → Bool} (h : l.all L = true) {d : Nat} (hm : l.contains d = true) : L d = true := List.all_eq_true.1 h d (by simpa using hm)
theorem Keep.to {p X : Nat} {a w w' : World} (h1 : Keep (· = p) a w) (h2 : Keep (fun k => k = p ∨ k = X) w w') (hX : a.heap.size ≤ X) : Keep (· = p) a w' :=
  ⟨h2.os.trans h1.os, h2.tape.trans h1.tape, h2.output.trans h1.output, Nat.le_trans h1.size h2.size, fun k hk hp => (h2.block k (Nat.lt_of_lt_of_le hk h1.size) (by rintro (h | h) <;> omega)).trans (h1.block k hk hp)⟩
theorem Keep.wide {S T : Nat → Prop} {w w' : World} (h : Keep S w w') (hS : ∀ k, S k → T k) : Keep T w w' :=
  ⟨h.os, h.tape, h.output, h.size, fun k hk hT => h.block k hk (fun q => hT (hS k q))⟩
/-- kb: the list is built; kc: the draw; ks: the store into box X -/
structure WS (kb kc ks p X : Nat) (n : Int) (c0 : List Value) (c1 : Int → List Value) (arr : List Value) (w0 : World) (L : Nat → Bool) (ρ : Nat × Int) (w : World) : Prop where
  kp : Keep (fun k => k = p ∨ k = X) w0 w
  s0 : L ks = false → Src w p
  s1 : L ks = true → p < X → Src w p
  b0 : L ks = false → Bx w X c0
  b1 : L ks = true → Bx w X (c1 ρ.2)
  rr : L kc = true → 0 ≤ ρ.2 ∧ ρ.2 < n
  ar : L kb = true → w0.heap.size ≤ ρ.1 ∧ Bx w ρ.1 arr
variable {kb kc ks p X : Nat} {n : Int} {c0 : List Value} {c1 : Int → List Value} {arr : List Value} {w0 w w' : World} {L : Nat → Bool} {ρ : Nat × Int}
theorem WS.start (hk : Keep (fun k => k = p ∨ k = X) w0 w) (hs : Src w p) (hb : Bx w X c0) : WS kb kc ks p X n c0 c1 arr w0 (fun _ => false) ρ w :=
  ⟨hk, fun _ => hs, (fun h => by cases h), fun _ => hb, (fun h => by cases h), (fun h => by cases h), (fun h => by cases h)⟩
theorem WS.pure (h : WS kb kc ks p X n c0 c1 arr w0 L ρ w) {i : Nat} (h1 : kb ≠ i) (h2 : kc ≠ i) (h3 : ks ≠ i) : WS kb kc ks p X n c0 c1 arr w0 (upd L i) ρ w := by
  constructor <;> try simp only [upd_ne h1, upd_ne h2, upd_ne h3]
  · exact h.kp
  · exact h.s0
  · exact h.s1
  · exact h.b0
  · exact h.b1
  · exact h.rr
  · exact h.ar
theorem WS.call (h : WS kb kc ks p X n c0 c1 arr w0 L ρ w) (hp : p < w0.heap.size) (hX : p ≠ X) (h1 : kb ≠ kc) (h2 : ks ≠ kc) (hks : L ks = false) (hk : Keep (· = p) w w') (hs : Src w' p) {r : Int} (ra : 0 ≤ r) (rb : r < n) : WS kb kc ks p X n c0 c1 arr w0 (upd L kc) (ρ.1, r) w' := by
  constructor <;> try simp only [upd_ne h1, upd_ne h2, upd_self]
  · exact h.kp.trans (hk.wide fun k q => Or.inl q)
  · exact fun _ => hs
  · intro q; rw [hks] at q; cases q
  · intro q; exact (h.b0 q).keep hk (by omega)
  · intro q; rw [hks] at q; cases q
  · exact fun _ => ⟨ra, rb⟩
  · intro q; exact ⟨(h.ar q).1, (h.ar q).2.keep hk (by have := (h.ar q).1; omega)⟩
theorem WS.alloc (h : WS kb kc ks p X n c0 c1 arr w0 L ρ w) (h1 : kc ≠ kb) (h2 : ks ≠ kb) (hb : Below w.heap.size w w') (hx : Bx w' w.heap.size arr) : WS kb kc ks p X n c0 c1 arr w0 (upd L kb) (w.heap.size, ρ.2) w' := by
  constructor <;> try simp only [upd_ne h1, upd_ne h2, upd_self]
  · exact h.kp.trans (Keep.of_below _ hb)
  · intro q; exact (h.s0 q).below hb
  · intro q z; exact (h.s1 q z).below hb
  · intro q; exact (h.b0 q).below hb (h.b0 q).lt
  · intro q; exact (h.b1 q).below hb (h.b1 q).lt
  · exact h.rr
  · exact fun _ => ⟨h.kp.size, hx⟩
theorem WS.store (h : WS kb kc ks p X n c0 c1 arr w0 L ρ w) (h1 : kb ≠ ks) (h2 : kc ≠ ks) (hks : L ks = false) (hXw : X < w0.heap.size) (hb : Keep (· = X) w w') (hs : p < X → Below X w w') (hx : Bx w' X (c1 ρ.2)) : WS kb kc ks p X n c0 c1 arr w0 (upd L ks) ρ w' := by
  constructor <;> try simp only [upd_ne h1, upd_ne h2, upd_self]
  · exact h.kp.trans (hb.wide fun k q => Or.inr q)
  · intro q; cases q
  · intro _ z; exact (h.s0 hks).high (hs z) z
  · intro q; cases q
  · exact fun _ => hx
  · exact h.rr
  · intro q; exact ⟨(h.ar q).1, (h.ar q).2.keep hb (by have := (h.ar q).1; omega)⟩
end Go.Proofs.YtbdacplndmnkhaaGreatDoor
