/- A drawn region that makes lists of numbers (each by one operation, or several by one call) and one box, which is written last: what holds while its operations come up. -/
import Derived.Test.YtijhadafmhbceaaTb
import Derived.Test.YtijhadafmhbceaaStl
import Derived.Test.YtijhadafmhbceaaDr
namespace Go.Proofs.Ytijhadafmhbceaa
set_option linter.unusedVariables false
set_option linter.unusedSimpArgs false
open Go.RowKit
structure Rz where
  a : Nat → Option Addr
  c : Nat → Nat
  b : Nat
def Rz.zero : Rz := ⟨fun _ => none, fun _ => 0, 0⟩
def Rz.list (ρ : Rz) (j : Nat) (A : Option Addr) (c : Nat) : Rz := ⟨fun k => if k = j then A else ρ.a k, fun k => if k = j then c else ρ.c k, ρ.b⟩
def Rz.box (ρ : Rz) (g : Nat) : Rz := ⟨ρ.a, ρ.c, g⟩
/-- M: operation, label and content of the lists made; kb makes the box of zero values z, ks fills it with cs -/
structure WB (w0 : World) (M : List (Nat × Nat × List Int)) (kb ks : Nat) (z : List Value) (cs : Rz → List Value) (L : Nat → Bool) (ρ : Rz) (w : World) : Prop where
  bl : Below w0.heap.size w0 w
  md : ∀ i j l, (i, j, l) ∈ M → L i = true → Wr w0.heap.size w (ρ.a j) l.length (l.map iV)
  ds : ∀ i j l i' j' l', (i, j, l) ∈ M → (i', j', l') ∈ M → L i = true → L i' = true → j ≠ j' → ∀ q, onA (ρ.a j) q → ¬ onA (ρ.a j') q
  b0 : L kb = true → w0.heap.size ≤ ρ.b ∧ ρ.b < w.heap.size ∧ ∀ i j l, (i, j, l) ∈ M → L i = true → ¬ onA (ρ.a j) ρ.b
  b1 : L kb = true → L ks = false → Bx w ρ.b z
  b2 : L ks = true → Bx w ρ.b (cs ρ)
section
variable {w0 w w' : World} {M : List (Nat × Nat × List Int)} {kb ks : Nat} {z : List Value} {cs : Rz → List Value} {L : Nat → Bool} {ρ : Rz}
theorem WB.start (h : Below w0.heap.size w0 w) : WB w0 M kb ks z cs (fun _ => false) ρ w :=
  ⟨h, (fun _ _ _ _ e => by cases e), (fun _ _ _ _ _ _ _ _ e => by cases e), (fun e => by cases e), (fun e => by cases e), (fun e => by cases e)⟩
theorem WB.notin {i j : Nat} {l : List Int} (h : (M.map (·.1)).contains i = false) (hm : (i, j, l) ∈ M) : False := by
  have : (M.map (·.1)).contains i = true := by
    rw [List.contains_iff_mem]; exact List.mem_map.2 ⟨_, hm, rfl⟩
  rw [h] at this; cases this
/-- an operation that makes nothing that is told of -/
theorem WB.below (h : WB w0 M kb ks z cs L ρ w) {i : Nat} (h1 : (M.map (·.1)).contains i = false) (h2 : kb ≠ i) (h3 : ks ≠ i) (hb : Below w.heap.size w w') : WB w0 M kb ks z cs (upd L i) ρ w' := by
  refine ⟨h.bl.trans (hb.mono h.bl.size), fun i' j l hm hj => ?_, fun i1 j1 l1 i2 j2 l2 m1 m2 e1 e2 => ?_, ?_, ?_, ?_⟩
  · rcases upd_cases hj with hj | rfl
    · exact (h.md i' j l hm hj).below hb
    · exact (WB.notin h1 hm).elim
  · rcases upd_cases e1 with e1 | rfl
    · rcases upd_cases e2 with e2 | rfl
      · exact h.ds _ _ _ _ _ _ m1 m2 e1 e2
      · exact (WB.notin h1 m2).elim
    · exact (WB.notin h1 m1).elim
  · rw [upd_ne h2]; intro e
    obtain ⟨p, q, r⟩ := h.b0 e
    refine ⟨p, by have := hb.size; omega, fun i' j l hm hj => ?_⟩
    rcases upd_cases hj with hj | rfl
    · exact r _ _ _ hm hj
    · exact (WB.notin h1 hm).elim
  · rw [upd_ne h2, upd_ne h3]; intro e e'; exact (h.b1 e e').below hb (h.b0 e).2.1
  · rw [upd_ne h3]; intro e
    have := h.b2 e
    exact this.below hb this.lt
theorem WB.pure (h : WB w0 M kb ks z cs L ρ w) {i : Nat} (h1 : (M.map (·.1)).contains i = false) (h2 : kb ≠ i) (h3 : ks ≠ i) : WB w0 M kb ks z cs (upd L i) ρ w := h.below h1 h2 h3 (Below.refl _ _)
/-- the same where the record tells of an address that is in no list -/
theorem WB.other (h : WB w0 M kb ks z cs L ρ w) {ρ' : Rz} (ha : ∀ i j l, (i, j, l) ∈ M → ρ'.a j = ρ.a j) (hb : ρ'.b = ρ.b) (hc : cs ρ' = cs ρ) : WB w0 M kb ks z cs L ρ' w := by
  refine ⟨h.bl, fun i j l hm e => by rw [ha i j l hm]; exact h.md i j l hm e, fun i1 j1 l1 i2 j2 l2 m1 m2 e1 e2 => by rw [ha _ _ _ m1, ha _ _ _ m2]; exact h.ds _ _ _ _ _ _ m1 m2 e1 e2, fun e => ?_, fun e e' => by rw [hb]; exact h.b1 e e', fun e => by rw [hb, hc]; exact h.b2 e⟩
  rw [hb]
  obtain ⟨p, q, r⟩ := h.b0 e
  exact ⟨p, q, fun i j l hm e => by rw [ha i j l hm]; exact r i j l hm e⟩
/-- operation i makes lists -/
theorem WB.make (h : WB w0 M kb ks z cs L ρ w) {i : Nat} {ρ' : Rz} (h2 : kb ≠ i) (h3 : ks ≠ i) (hks : L ks = false) (hb : Below w.heap.size w w') (hρ : ρ'.b = ρ.b)
    (ho : ∀ i' j l, (i', j, l) ∈ M → i' ≠ i → ρ'.a j = ρ.a j) (hw : ∀ j l, (i, j, l) ∈ M → Wr w.heap.size w' (ρ'.a j) l.length (l.map iV)) (hd : ∀ j l j' l', (i, j, l) ∈ M → (i, j', l') ∈ M → j ≠ j' → ∀ q, onA (ρ'.a j) q → ¬ onA (ρ'.a j') q) :
    WB w0 M kb ks z cs (upd L i) ρ' w' := by
  have hz := h.bl.size
  refine ⟨h.bl.trans (hb.mono h.bl.size), fun i' j l hm hj => ?_, fun i1 j1 l1 i2 j2 l2 m1 m2 e1 e2 hne q q1 q2 => ?_, ?_, ?_, ?_⟩
  · by_cases hi : i' = i
    · subst hi; exact (hw j l hm).lower hz
    · rw [upd_ne hi] at hj
      rw [ho _ _ _ hm hi]; exact (h.md i' j l hm hj).below hb
  · by_cases h5 : i1 = i
    · subst h5
      by_cases h6 : i2 = i1
      · subst h6; exact hd _ _ _ _ m1 m2 hne q q1 q2
      · rw [upd_ne h6] at e2
        rw [ho _ _ _ m2 h6] at q2
        have a := (hw _ _ m1).lo q q1
        have b := (h.md _ _ _ m2 e2).hi q q2
        omega
    · rw [upd_ne h5] at e1
      rw [ho _ _ _ m1 h5] at q1
      by_cases h6 : i2 = i
      · subst h6
        have a := (hw _ _ m2).lo q q2
        have b := (h.md _ _ _ m1 e1).hi q q1
        omega
      · rw [upd_ne h6] at e2
        rw [ho _ _ _ m2 h6] at q2
        exact h.ds _ _ _ _ _ _ m1 m2 e1 e2 hne q q1 q2
  · rw [upd_ne h2]; intro e
    obtain ⟨p, q, r⟩ := h.b0 e
    rw [hρ]
    refine ⟨p, by have := hb.size; omega, fun i' j l hm hj hq => ?_⟩
    by_cases hi : i' = i
    · subst hi
      have := (hw _ _ hm).lo _ hq
      omega
    · rw [upd_ne hi] at hj
      rw [ho _ _ _ hm hi] at hq
      exact r _ _ _ hm hj hq
  · rw [upd_ne h2, upd_ne h3, hρ]; intro e e'; exact (h.b1 e e').below hb (h.b0 e).2.1
  · rw [upd_ne h3, hks]; intro e; cases e
/-- operation i makes one list, of label j -/
theorem WB.one (h : WB w0 M kb ks z cs L ρ w) {i j c : Nat} {A : Option Addr} {l : List Int} (h2 : kb ≠ i) (h3 : ks ≠ i) (hks : L ks = false) (hb : Below w.heap.size w w') (hw : Wr w.heap.size w' A l.length (l.map iV))
    (ho : ∀ i' j' l', (i', j', l') ∈ M → i' ≠ i → j' ≠ j) (hl : ∀ j' l', (i, j', l') ∈ M → j' = j ∧ l' = l) : WB w0 M kb ks z cs (upd L i) (ρ.list j A c) w' :=
  h.make h2 h3 hks hb rfl (fun i' j' l' hm hi => by simp [Rz.list, ho i' j' l' hm hi]) (fun j' l' hm => by obtain ⟨rfl, rfl⟩ := hl _ _ hm; simpa [Rz.list] using hw)
    (fun j1 l1 j2 l2 m1 m2 hne => absurd ((hl _ _ m1).1.trans (hl _ _ m2).1.symm) hne)
/-- operation i makes an empty list, of a label that is in no list -/
theorem WB.empty (h : WB w0 M kb ks z cs L ρ w) {i j c : Nat} {A : Option Addr} (h1 : (M.map (·.1)).contains i = false) (h2 : kb ≠ i) (h3 : ks ≠ i) (hj : (M.map (·.2.1)).contains j = false) (hc : cs (ρ.list j A c) = cs ρ) (hb : Below w.heap.size w w') : WB w0 M kb ks z cs (upd L i) (ρ.list j A c) w' :=
  (h.below h1 h2 h3 hb).other (fun i' j' l' hm => by
    have hne : j' ≠ j := by
      rintro rfl
      have : (M.map (·.2.1)).contains j' = true := by
        rw [List.contains_iff_mem]; exact List.mem_map.2 ⟨_, hm, rfl⟩
      rw [hj] at this; cases this
    simp [Rz.list, hne]) rfl hc
/-- operation i makes three lists, labels 0 to 2 -/
theorem WB.three {i c1 c2 c3 : Nat} {l0 l1 l2 : List Int} {A1 A2 A3 : Option Addr} (h : WB w0 [(i, 0, l0), (i, 1, l1), (i, 2, l2)] kb ks z cs L ρ w) (h2 : kb ≠ i) (h3 : ks ≠ i) (hks : L ks = false) (hb : Below w.heap.size w w') (hw : BufW w.heap.size w' A1 A2 A3 l0 l1 l2) :
    WB w0 [(i, 0, l0), (i, 1, l1), (i, 2, l2)] kb ks z cs (upd L i) (((ρ.list 0 A1 c1).list 1 A2 c2).list 2 A3 c3) w' := by
  refine h.make h2 h3 hks hb rfl (fun i' j l hm hi => ?_) (fun j l hm => ?_) (fun j l j' l' m1 m2 hne => ?_)
  · simp at hm; rcases hm with ⟨rfl, -⟩ | ⟨rfl, -⟩ | ⟨rfl, -⟩ <;> exact absurd rfl hi
  · simp at hm
    rcases hm with ⟨rfl, rfl⟩ | ⟨rfl, rfl⟩ | ⟨rfl, rfl⟩
    · exact hw.r1
    · exact hw.r2
    · exact hw.r3
  · simp at m1 m2
    rcases m1 with ⟨rfl, rfl⟩ | ⟨rfl, rfl⟩ | ⟨rfl, rfl⟩ <;> rcases m2 with ⟨rfl, rfl⟩ | ⟨rfl, rfl⟩ | ⟨rfl, rfl⟩
    · exact absurd rfl hne
    · exact hw.d12
    · exact hw.d13
    · exact fun q a b => hw.d12 q b a
    · exact absurd rfl hne
    · exact hw.d23
    · exact fun q a b => hw.d13 q b a
    · exact fun q a b => hw.d23 q b a
    · exact absurd rfl hne
/-- the box is made -/
theorem WB.boxed (h : WB w0 M kb ks z cs L ρ w) (h1 : (M.map (·.1)).contains kb = false) (h3 : ks ≠ kb) (hks : L ks = false) (hb : Below w.heap.size w w') (hx : Bx w' w.heap.size z) : WB w0 M kb ks z cs (upd L kb) (ρ.box w.heap.size) w' := by
  have hz := h.bl.size
  refine ⟨h.bl.trans (hb.mono h.bl.size), fun i' j l hm hj => ?_, fun i1 j1 l1 i2 j2 l2 m1 m2 e1 e2 => ?_, fun _ => ⟨hz, hx.lt, fun i j l hm hj hq => ?_⟩, fun _ _ => hx, ?_⟩
  · rcases upd_cases hj with hj | rfl
    · exact (h.md i' j l hm hj).below hb
    · exact (WB.notin h1 hm).elim
  · rcases upd_cases e1 with e1 | rfl
    · rcases upd_cases e2 with e2 | rfl
      · exact h.ds _ _ _ _ _ _ m1 m2 e1 e2
      · exact (WB.notin h1 m2).elim
    · exact (WB.notin h1 m1).elim
  · rcases upd_cases hj with hj | rfl
    · have : w.heap.size < w.heap.size := (h.md _ _ _ hm hj).hi _ hq
      omega
    · exact (WB.notin h1 hm).elim
  · rw [upd_ne h3, hks]; intro e; cases e
/-- the box is filled -/
theorem WB.store (h : WB w0 M kb ks z cs L ρ w) (h1 : (M.map (·.1)).contains ks = false) (h3 : kb ≠ ks) (hL : L kb = true) (hk : Keep (· = ρ.b) w w') (hx : Bx w' ρ.b (cs ρ)) : WB w0 M kb ks z cs (upd L ks) ρ w' := by
  obtain ⟨p, q, r⟩ := h.b0 hL
  refine ⟨hk.below h.bl h.bl.size (fun k e => by subst e; exact p), fun i' j l hm hj => ?_, fun i1 j1 l1 i2 j2 l2 m1 m2 e1 e2 => ?_, fun _ => ⟨p, hx.lt, fun i j l hm hj => ?_⟩, (fun _ => by rw [upd_self]; intro e; cases e), fun _ => hx⟩
  · rcases upd_cases hj with hj | rfl
    · exact (h.md i' j l hm hj).keep hk (fun k hk' e => r _ _ _ hm hj (e ▸ hk'))
    · exact (WB.notin h1 hm).elim
  · rcases upd_cases e1 with e1 | rfl
    · rcases upd_cases e2 with e2 | rfl
      · exact h.ds _ _ _ _ _ _ m1 m2 e1 e2
      · exact (WB.notin h1 m2).elim
    · exact (WB.notin h1 m1).elim
  · rcases upd_cases hj with hj | rfl
    · exact r _ _ _ hm hj
    · exact (WB.notin h1 hm).elim
end
theorem keep3 {w : World} {b : Nat} (v0 v1 v2 : Value) : Keep (· = b) w (((w.setCell ⟨b, 0, none⟩ v0).setCell ⟨b, 1, none⟩ v1).setCell ⟨b, 2, none⟩ v2) :=
  (((Keep.refl (· = b) w).setCell rfl v0).setCell rfl v1).setCell rfl v2
theorem bx_fill3 {w : World} {b : Nat} {z0 z1 z2 : Value} (h : Bx w b [z0, z1, z2]) (v0 v1 v2 : Value) : Bx (((w.setCell ⟨b, 0, none⟩ v0).setCell ⟨b, 1, none⟩ v1).setCell ⟨b, 2, none⟩ v2) b [v0, v1, v2] := by
  have hy := h.lt
  have c0 := h.cell 0 rfl
  have c1 := h.cell 1 rfl
  have c2 := h.cell 2 rfl
  have f0 := h.frozen 0 rfl
  have f1 := h.frozen 1 rfl
  have f2 := h.frozen 2 rfl
  refine bx3 (by simpa [World.setCell] using hy) ?_ ?_ ?_ ?_ ?_ ?_ <;> simp [go_sem, c0, c1, c2, f0, f1, f2, hy]
end Go.Proofs.Ytijhadafmhbceaa
