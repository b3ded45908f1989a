/- A drawn region whose calls draw numbers and whose one write comes last: what holds while its operations come up. -/
import Derived.Test.YtbdacplndmnkhaaGreatDoorTb
namespace Go.Proofs.YtbdacplndmnkhaaGreatDoor
set_option linter.unusedVariables false
set_option linter.unusedSimpArgs false
open Go.RowKit
/-- what the operations of such a region hand back: blocks made, numbers drawn, lists made, a slice appended to -/
structure Zr where
  b : Nat → Nat
  r : Nat → Int
  c : Nat → List Int
  v : Value
def Zr.zero : Zr := ⟨fun _ => 0, fun _ => 0, fun _ => [], undef⟩
def Zr.drawn (ρ : Zr) (i : Nat) (r : Int) : Zr := ⟨ρ.b, fun j => if j = i then r else ρ.r j, ρ.c, ρ.v⟩
def Zr.made (ρ : Zr) (i g : Nat) (l : List Int) : Zr := ⟨fun j => if j = i then g else ρ.b j, ρ.r, fun j => if j = i then l else ρ.c j, ρ.v⟩
/-- D: the draws and their bounds; M: the lists made (length, least, greatest); ks: the write -/
structure WZ (p : Nat) (S : Nat → Prop) (D : List (Nat × Int)) (M : List (Nat × Nat × Int × Int)) (ks : Nat) (TA : World → Prop) (TB : Zr → World → Prop) (w0 : World) (L : Nat → Bool) (ρ : Zr) (w : World) : Prop where
  kp : Keep (fun k => k = p ∨ S k) w0 w
  sr : L ks = false → Src w p
  t0 : L ks = false → TA w
  t1 : L ks = true → TB ρ w
  dr : ∀ i n, (i, n) ∈ D → L i = true → 0 ≤ ρ.r i ∧ ρ.r i < n
  cl : ∀ i k lo hi, (i, k, lo, hi) ∈ M → L i = true → (ρ.c i).length = k ∧ ∀ x ∈ ρ.c i, lo ≤ x ∧ x ≤ hi
  md : ∀ i k lo hi, (i, k, lo, hi) ∈ M → L i = true → w0.heap.size ≤ ρ.b i ∧ Bx w (ρ.b i) ((ρ.c i).map iV)
section
variable {p : Nat} {S : Nat → Prop} {D : List (Nat × Int)} {M : List (Nat × Nat × Int × Int)} {ks : Nat} {TA : World → Prop} {TB : Zr → World → Prop} {w0 w w' : World} {L : Nat → Bool} {ρ : Zr}
theorem not_in {α : Type} {l : List (Nat × α)} {i : Nat} (h : (l.map (·.1)).contains i = false) {x : α} : (i, x) ∉ l := fun hm => by
  have : (l.map (·.1)).contains i = true := by
    rw [List.contains_iff_mem]; exact List.mem_map.2 ⟨(i, x), hm, rfl⟩
  rw [h] at this; cases this
theorem WZ.start (hk : Keep (fun k => k = p ∨ S k) w0 w) (hs : Src w p) (ht : TA w) : WZ p S D M ks TA TB w0 (fun _ => false) ρ w :=
  ⟨hk, fun _ => hs, fun _ => ht, (fun h => by cases h), (fun _ _ _ h => by cases h), (fun _ _ _ _ _ h => by cases h), (fun _ _ _ _ _ h => by cases h)⟩
theorem WZ.pure (h : WZ p S D M ks TA TB w0 L ρ w) {i : Nat} (h1 : (D.map (·.1)).contains i = false) (h2 : (M.map (·.1)).contains i = false) (h3 : ks ≠ i) : WZ p S D M ks TA TB w0 (upd L i) ρ w := by
  refine ⟨h.kp, (by rw [upd_ne h3]; exact h.sr), ?_, ?_, fun j n hm hj => ?_, fun j k lo hi hm hj => ?_, fun j k lo hi hm hj => ?_⟩
  · rw [upd_ne h3]; exact h.t0
  · rw [upd_ne h3]; exact h.t1
  · rcases upd_cases hj with hj | rfl
    · exact h.dr j n hm hj
    · exact absurd hm (not_in h1)
  · rcases upd_cases hj with hj | rfl
    · exact h.cl j k lo hi hm hj
    · exact absurd hm (not_in h2)
  · rcases upd_cases hj with hj | rfl
    · exact h.md j k lo hi hm hj
    · exact absurd hm (not_in h2)
theorem WZ.call (h : WZ p S D M ks TA TB w0 L ρ w) {i : Nat} {r : Int} (h2 : (M.map (·.1)).contains i = false) (h3 : ks ≠ i) (hks : L ks = false) (hp : p < w0.heap.size) (hk : Keep (· = p) w w') (hs : Src w' p) (ht : TA w → TA w') (hr : ∀ n, (i, n) ∈ D → 0 ≤ r ∧ r < n) : WZ p S D M ks TA TB w0 (upd L i) (ρ.drawn i r) w' := by
  refine ⟨h.kp.trans (hk.wide fun k q => Or.inl q), fun _ => hs, fun _ => ht (h.t0 hks), ?_, fun j n hm hj => ?_, fun j k lo hi hm hj => ?_, fun j k lo hi hm hj => ?_⟩
  · rw [upd_ne h3, hks]; intro z; cases z
  · by_cases hji : j = i
    · subst hji; simp only [Zr.drawn, if_true]; exact hr n hm
    · simp only [Zr.drawn, if_neg hji]; rw [upd_ne hji] at hj; exact h.dr j n hm hj
  · rcases upd_cases hj with hj | rfl
    · exact h.cl j k lo hi hm hj
    · exact absurd hm (not_in h2)
  · rcases upd_cases hj with hj | rfl
    · have := h.md j k lo hi hm hj
      exact ⟨this.1, this.2.keep hk (by have := this.1; omega)⟩
    · exact absurd hm (not_in h2)
theorem WZ.made (h : WZ p S D M ks TA TB w0 L ρ w) {i : Nat} {l : List Int} (h1 : (D.map (·.1)).contains i = false) (h3 : ks ≠ i) (hb : Below w.heap.size w w') (ht : TA w → TA w') (ht1 : TB ρ w → TB (ρ.made i w.heap.size l) w') (hx : Bx w' w.heap.size (l.map iV)) (hl : ∀ k lo hi, (i, k, lo, hi) ∈ M → l.length = k ∧ ∀ x ∈ l, lo ≤ x ∧ x ≤ hi) : WZ p S D M ks TA TB w0 (upd L i) (ρ.made i w.heap.size l) w' := by
  refine ⟨h.kp.trans (Keep.of_below _ hb), (by rw [upd_ne h3]; exact fun z => (h.sr z).below hb), (by rw [upd_ne h3]; exact fun z => ht (h.t0 z)), (by rw [upd_ne h3]; exact fun z => ht1 (h.t1 z)), fun j n hm hj => ?_, fun j k lo hi hm hj => ?_, fun j k lo hi hm hj => ?_⟩
  · rcases upd_cases hj with hj | rfl
    · exact h.dr j n hm hj
    · exact absurd hm (not_in h1)
  · by_cases hji : j = i
    · subst hji; simp only [Zr.made, if_true]; exact hl k lo hi hm
    · simp only [Zr.made, if_neg hji]; rw [upd_ne hji] at hj; exact h.cl j k lo hi hm hj
  · by_cases hji : j = i
    · subst hji; simp only [Zr.made, if_true]; exact ⟨h.kp.size, hx⟩
    · simp only [Zr.made, if_neg hji]; rw [upd_ne hji] at hj
      have := h.md j k lo hi hm hj
      exact ⟨this.1, this.2.below hb this.2.lt⟩
theorem WZ.store (h : WZ p S D M ks TA TB w0 L ρ w) (h1 : (D.map (·.1)).contains ks = false) (h2 : (M.map (·.1)).contains ks = false) (hS : ∀ k, k = p ∨ S k → k < w0.heap.size) (hk : Keep (fun k => k = p ∨ S k) w w') (ht : TB ρ w') : WZ p S D M ks TA TB w0 (upd L ks) ρ w' := by
  refine ⟨h.kp.trans hk, (by rw [upd_self]; intro z; cases z), ?_, fun _ => ht, fun j n hm hj => ?_, fun j k lo hi hm hj => ?_, fun j k lo hi hm hj => ?_⟩
  · rw [upd_self]; intro z; cases z
  · rcases upd_cases hj with hj | rfl
    · exact h.dr j n hm hj
    · exact absurd hm (not_in h1)
  · rcases upd_cases hj with hj | rfl
    · exact h.cl j k lo hi hm hj
    · exact absurd hm (not_in h2)
  · rcases upd_cases hj with hj | rfl
    · have := h.md j k lo hi hm hj
      exact ⟨this.1, this.2.keep hk (fun q => by have := hS _ q; omega)⟩
    · exact absurd hm (not_in h2)
/-- the write goes into a box that the region made -/
theorem WZ.fill (h : WZ p S D M ks TA TB w0 L ρ w) {j : Nat} (l : List Int) (h1 : (D.map (·.1)).contains ks = false) (h2 : (M.map (·.1)).contains ks = false) (hg : w0.heap.size ≤ ρ.b j) (hM : ∀ i x, (i, x) ∈ M → i = j) (hx : Bx w' (ρ.b j) (l.map iV)) (hk : Keep (· = ρ.b j) w w') (hl : ∀ k lo hi, (j, k, lo, hi) ∈ M → l.length = k ∧ ∀ x ∈ l, lo ≤ x ∧ x ≤ hi) (ht : TB (ρ.made j (ρ.b j) l) w') : WZ p S D M ks TA TB w0 (upd L ks) (ρ.made j (ρ.b j) l) w' := by
  have hkp := h.kp
  refine ⟨⟨hk.os.trans hkp.os, hk.tape.trans hkp.tape, hk.output.trans hkp.output, Nat.le_trans hkp.size hk.size, fun k h1 h2 => (hk.block k (Nat.lt_of_lt_of_le h1 hkp.size) (by omega)).trans (hkp.block k h1 h2)⟩, (by rw [upd_self]; intro z; cases z), (by rw [upd_self]; intro z; cases z), fun _ => ht, fun i n hm hj => ?_, fun i k lo hi hm hj => ?_, fun i k lo hi hm hj => ?_⟩
  · rcases upd_cases hj with hj | rfl
    · exact h.dr i n hm hj
    · exact absurd hm (not_in h1)
  · obtain rfl := hM _ _ hm
    simp only [Zr.made, if_true]; exact hl k lo hi hm
  · obtain rfl := hM _ _ hm
    simp only [Zr.made, if_true]; exact ⟨hg, hx⟩
/-- the element picked out of a list that was made -/
theorem WZ.pick (h : WZ p S D M ks TA TB w0 L ρ w) {i j k : Nat} {n lo hi : Int} (hm : (i, k, lo, hi) ∈ M) (hd : (j, n) ∈ D) (hn : n ≤ k) (hLi : L i = true) (hj : L j = true) :
    (ρ.r j).toNat < k ∧ ρ.r j = ((ρ.r j).toNat : Int) ∧ (ρ.c i)[(ρ.r j).toNat]? = some ((ρ.c i).getD (ρ.r j).toNat 0) ∧ lo ≤ (ρ.c i).getD (ρ.r j).toNat 0 ∧ (ρ.c i).getD (ρ.r j).toNat 0 ≤ hi := by
  obtain ⟨a, b⟩ := h.dr j n hd hj
  obtain ⟨c, d⟩ := h.cl i k lo _ hm hLi
  have hlt : (ρ.r j).toNat < (ρ.c i).length := by omega
  have e := List.getElem?_eq_getElem hlt
  have e2 : (ρ.c i).getD (ρ.r j).toNat 0 = (ρ.c i)[(ρ.r j).toNat] := by simp [List.getD, e]
  refine ⟨by omega, by omega, by rw [e2]; exact e, ?_⟩
  rw [e2]
  exact d _ (List.getElem_mem hlt)
end
end Go.Proofs.YtbdacplndmnkhaaGreatDoor
