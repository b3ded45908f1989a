/- Slices that read as lists of cells; arrays of the call's own that are filled from the front. -/
import Derived.Test.YtbdacplndmnkhaaGreatDoorA0
import Derived.Laws.MakeOwn
import Derived.Laws.Entries
namespace Go.Proofs.YtbdacplndmnkhaaGreatDoor
set_option linter.unusedVariables false
set_option linter.unusedSimpArgs false
open Go.RowKit

theorem block_lt {w : World} {a : Addr} {v : Value} (h : w.cell? a = some v) : a.block < w.heap.size := by
  rcases Nat.lt_or_ge a.block w.heap.size with hlt | hge
  · exact hlt
  · unfold World.cell? at h; rw [Array.getElem?_eq_none hge] at h; cases h

/-- the cells from ⟨b, off⟩ on read as xs -/
def RdAt (w : World) (b off : Nat) (xs : List Value) : Prop := ∀ j v, xs[j]? = some v → w.cell? ⟨b, off + j, none⟩ = some v
/-- the cells from A on read as xs; A may be nil where there are none -/
def Rd (w : World) (A : Option Addr) (xs : List Value) : Prop := xs ≠ [] → ∃ b off, A = some ⟨b, off, none⟩ ∧ b < w.heap.size ∧ RdAt w b off xs

theorem Rd.nil {w : World} {A : Option Addr} : Rd w A [] := fun h => absurd rfl h
theorem Rd.mk {w : World} {b off : Nat} {xs : List Value} (h : RdAt w b off xs) (hb : b < w.heap.size) : Rd w (some ⟨b, off, none⟩) xs := fun _ => ⟨b, off, rfl, hb, h⟩
theorem RdAt.below {w w' : World} {b off B : Nat} {xs : List Value} (h : RdAt w b off xs) (hb : Below B w w') (hB : b < B) : RdAt w' b off xs :=
  fun j v e => (hb.cell (p := ⟨b, off + j, none⟩) hB).trans (h j v e)
theorem Rd.below {w w' : World} {A : Option Addr} {xs : List Value} (h : Rd w A xs) (hb : Below w.heap.size w w') : Rd w' A xs := fun hne => by
  obtain ⟨b, off, e, hl, hat⟩ := h hne
  exact ⟨b, off, e, Nat.lt_of_lt_of_le hl hb.size, hat.below hb hl⟩
theorem Rd.at_ {w : World} {b off : Nat} {xs : List Value} (h : Rd w (some ⟨b, off, none⟩) xs) : RdAt w b off xs := fun j v e => by
  obtain ⟨b', off', he, _, hat⟩ := h (by rintro rfl; simp at e)
  injection he with he
  injection he with h1 h2
  subst h1; subst h2
  exact hat j v e
theorem Rd.opened {w : World} {A : Option Addr} {xs : List Value} {k : Nat} (h : Rd w A xs) (hk : k < xs.length) : ∃ b off, A = some ⟨b, off, none⟩ ∧ b < w.heap.size ∧ RdAt w b off xs :=
  h (by rintro rfl; simp at hk)

/-- element i of a list of structs of s cells each, its cell j -/
theorem flat_at {α : Type} {f : α → List Value} {s : Nat} (hs : ∀ a, (f a).length = s) : ∀ (l : List α) (i : Nat) (a : α) (j : Nat) (v : Value), l[i]? = some a → (f a)[j]? = some v → (l.flatMap f)[i * s + j]? = some v
  | [], i, a, j, v, h, _ => by simp at h
  | x :: l, 0, a, j, v, h, hj => by
    simp at h; subst h
    have hlt : j < (f x).length := (List.getElem?_eq_some_iff.1 hj).1
    rw [List.flatMap_cons, Nat.zero_mul, Nat.zero_add, List.getElem?_append_left hlt]; exact hj
  | x :: l, i + 1, a, j, v, h, hj => by
    have h' : l[i]? = some a := by simpa using h
    have := flat_at hs l i a j v h' hj
    rw [List.flatMap_cons, List.getElem?_append_right (by rw [hs, Nat.succ_mul]; omega), hs, show (i + 1) * s + j - s = i * s + j by rw [Nat.succ_mul]; omega]
    exact this
theorem flat_len {α : Type} {f : α → List Value} {s : Nat} (hs : ∀ a, (f a).length = s) : ∀ l : List α, (l.flatMap f).length = l.length * s
  | [] => by simp
  | x :: l => by rw [List.flatMap_cons, List.length_append, hs, flat_len hs l, List.length_cons, Nat.succ_mul]; omega
theorem flat_snoc {α : Type} {f : α → List Value} (l : List α) (k : Nat) (a : α) (h : l[k]? = some a) : (l.take (k + 1)).flatMap f = (l.take k).flatMap f ++ f a := by
  have hk : k < l.length := (List.getElem?_eq_some_iff.1 h).1
  rw [List.take_succ_eq_append_getElem hk, List.flatMap_append]
  have : l[k] = a := by have := (List.getElem?_eq_some_iff.1 h).2; exact this
  rw [this]; simp
theorem get_some {α : Type} {l : List α} {k : Nat} (h : k < l.length) : ∃ a, l[k]? = some a := ⟨l[k], List.getElem?_eq_getElem h⟩

theorem RdAt.elem {α : Type} {f : α → List Value} {s : Nat} {w : World} {b off : Nat} {l : List α} (h : RdAt w b off (l.flatMap f)) (hs : ∀ a, (f a).length = s) {i : Nat} {a : α} (hi : l[i]? = some a) (j : Nat) {v : Value} (hj : (f a)[j]? = some v) :
    w.cell? ⟨b, off + i * s + j, none⟩ = some v := by
  have := h (i * s + j) v (flat_at hs l i a j v hi hj)
  rw [← Nat.add_assoc] at this; exact this
theorem RdAt.elem0 {α : Type} {f : α → List Value} {s : Nat} {w : World} {b off : Nat} {l : List α} (h : RdAt w b off (l.flatMap f)) (hs : ∀ a, (f a).length = s) {i : Nat} {a : α} (hi : l[i]? = some a) {v : Value} (hj : (f a)[0]? = some v) :
    w.cell? ⟨b, off + i * s, none⟩ = some v := h.elem hs hi 0 hj

/-- block g of the call's own: N cells, none frozen, the first of them xs -/
def Arr (w : World) (g N : Nat) (xs : List Value) : Prop :=
  g < w.heap.size ∧ (∀ j, j < N → (∃ v, w.cell? ⟨g, j, none⟩ = some v) ∧ w.frozen? ⟨g, j, none⟩ = false) ∧ ∀ j v, xs[j]? = some v → w.cell? ⟨g, j, none⟩ = some v
theorem Arr.lt {w : World} {g N : Nat} {xs : List Value} (h : Arr w g N xs) : g < w.heap.size := h.1
theorem Arr.free {w : World} {g N : Nat} {xs : List Value} (h : Arr w g N xs) {j : Nat} (hj : j < N) : w.frozen? ⟨g, j, none⟩ = false := (h.2.1 j hj).2
theorem Arr.some_ {w : World} {g N : Nat} {xs : List Value} (h : Arr w g N xs) {j : Nat} (hj : j < N) : ∃ v, w.cell? ⟨g, j, none⟩ = some v := (h.2.1 j hj).1
theorem Arr.cell {w : World} {g N : Nat} {xs : List Value} (h : Arr w g N xs) {j : Nat} {v : Value} (hj : xs[j]? = some v) : w.cell? ⟨g, j, none⟩ = some v := h.2.2 j v hj
theorem Arr.below {w w' : World} {g N B : Nat} {xs : List Value} (h : Arr w g N xs) (hb : Below B w w') (hB : g < B) : Arr w' g N xs :=
  ⟨by have := h.1; have := hb.size; omega, fun j hj => ⟨by obtain ⟨v, hv⟩ := h.some_ hj; exact ⟨v, (hb.cell (p := ⟨g, j, none⟩) hB).trans hv⟩, (hb.frozen (p := ⟨g, j, none⟩) hB).trans (h.free hj)⟩,
    fun j v e => (hb.cell (p := ⟨g, j, none⟩) hB).trans (h.cell e)⟩
theorem Arr.push {w : World} {g N : Nat} {xs : List Value} (h : Arr w g N xs) (i : Nat) (hi : i = xs.length) (hN : i < N) (v : Value) : Arr (w.setCell ⟨g, i, none⟩ v) g N (xs ++ [v]) := by
  obtain ⟨u, hu⟩ := h.some_ hN
  refine ⟨by rw [show (w.setCell ⟨g, i, none⟩ v).heap.size = w.heap.size by simp [World.setCell]]; exact h.1, fun j hj => ⟨?_, by simp [h.free hj]⟩, fun j x e => ?_⟩
  · by_cases hji : j = i
    · subst hji; exact ⟨v, World.cell?_setCell_same _ _ _ hu⟩
    · obtain ⟨y, hy⟩ := h.some_ hj
      exact ⟨y, (World.cell?_setCell_other _ _ _ _ (by intro e; injection e; omega)).trans hy⟩
  · by_cases hji : j = i
    · subst hji; subst hi
      simp at e; subst e
      exact World.cell?_setCell_same _ _ _ hu
    · have hlt : j < xs.length := by
        have := (List.getElem?_eq_some_iff.1 e).1; simp at this; omega
      rw [List.getElem?_append_left hlt] at e
      exact (World.cell?_setCell_other _ _ _ _ (by intro e; injection e; omega)).trans (h.cell e)
theorem Arr.rd {w : World} {g N : Nat} {xs : List Value} (h : Arr w g N xs) : Rd w (some ⟨g, 0, none⟩) xs := Rd.mk (fun j v e => by rw [Nat.zero_add]; exact h.cell e) h.1
theorem Arr.far {w : World} {g N : Nat} {xs : List Value} (h : Arr w g N xs) {p : Addr} (hp : g ≠ p.block) (u : Value) : Arr (w.setCell p u) g N xs :=
  ⟨by rw [show (w.setCell p u).heap.size = w.heap.size by simp [World.setCell]]; exact h.1, fun j hj => ⟨by
      obtain ⟨v, hv⟩ := h.some_ hj
      exact ⟨v, (World.cell?_setCell_other _ _ _ _ (fun e => hp (by rw [e]))).trans hv⟩, by simp [h.free hj]⟩,
    fun j v e => (World.cell?_setCell_other _ _ _ _ (fun e => hp (by rw [e]))).trans (h.cell e)⟩
theorem Arr.alloc {w : World} {g N : Nat} {xs : List Value} (h : Arr w g N xs) (o : Obj) : Arr (w.alloc o) g N xs := h.below ((Below.refl w.heap.size w).alloc (Nat.le_refl _) o) h.1
theorem Arr.drew {w : World} {g N : Nat} {xs : List Value} (h : Arr w g N xs) : Arr w.drew g N xs := h

theorem Arr.made (w : World) (z : Value) (n s : Nat) (e : TypeId) (hz : z.cells.size = s) (hs : 0 < s) : Arr (w.alloc (.cells (madeCells z.cells (n * s)) e)) w.heap.size (n * s) [] := by
  refine ⟨by simp, fun j hj => ⟨?_, by simp⟩, fun j v e => by simp at e⟩
  have hc : (w.alloc (.cells (madeCells z.cells (n * s)) e)).cell? ⟨w.heap.size, j, none⟩ = (madeCells z.cells (n * s))[j]? := by simp
  rw [hc]
  have hsz : (madeCells z.cells (n * s)).size = n * s := by simp [madeCells]
  exact ⟨_, Array.getElem?_eq_getElem (by rw [hsz]; exact hj)⟩

/-- a slice of n elements in new memory, N cells, which read as xs -/
def MadeS (w : World) (n N : Nat) (xs : List Value) (e : Ending) (w' : World) : Prop :=
  ∃ g, e = .returned (.slice (some ⟨g, 0, none⟩) n n) ∧ w.heap.size ≤ g ∧ Arr w' g N xs ∧ Below w.heap.size w w'

theorem run_make_rowN {P : Program} (t e : TypeId) (i : TypeInfo) (z : Value) (ht : P.underlying t = some (.slice e)) (hi : P.info? e = some i) (hz : i.zero = some z)
    (kl kc : IntKind) (n c : Nat) (hnc : n ≤ c) (hbytes : i.bytes * c ≤ 281474976710656) (h63 : c ≤ 9223372036854775807) (w : World) :
    (Instr.makeSlice t (.int kl (n : Int)) (.int kc (c : Int))).run P w = .ok (.slice (some ⟨w.heap.size, 0, none⟩) n c) (w.alloc (.cells (madeCells z.cells (c * i.size)) e)) := by
  have hb : (i.bytes : Int) * (c : Int) ≤ 281474976710656 := by
    have h : ((i.bytes * c : Nat) : Int) ≤ 281474976710656 := by omega
    rwa [Int.natCast_mul] at h
  have hr := run_make (P := P) w t e i z ht hi hz kl kc n c (by omega) (by omega) hb (by omega)
  simp only [Int.toNat_natCast] at hr
  exact hr

/-- make([]T, n): T of s cells and by bytes, its zero value z -/
theorem make_rule {P : Program} {t e : TypeId} {z : Value} {s by_ : Nat} (hinfo : (P.info? e).map (fun i => (i.zero, i.size, i.bytes)) = some (some z, s, by_)) (ht : P.underlying t = some (.slice e)) (n : Nat) (hn : n ≤ 2097152) (hby : by_ ≤ 1024) (w : World) :
    (Instr.makeSlice t (.int .i64 (n : Int)) (.int .i64 (n : Int))).run P w = .ok (.slice (some ⟨w.heap.size, 0, none⟩) n n) (w.alloc (.cells (madeCells z.cells (n * s)) e)) := by
  obtain ⟨i0, hi0, hz0, hz1, hz2⟩ := info_parts hinfo
  have := run_make_rowN (P := P) t e i0 z ht hi0 hz0 .i64 .i64 n n (Nat.le_refl _) (by
    rw [hz2]; calc by_ * n ≤ 1024 * 2097152 := Nat.mul_le_mul hby hn
      _ ≤ 281474976710656 := by omega) (by omega) w
  rw [hz1] at this; exact this

theorem Rd.pre {w : World} {A : Option Addr} {xs ys : List Value} (h : Rd w A (xs ++ ys)) : Rd w A xs := fun hne => by
  obtain ⟨b, off, e, hb, hat⟩ := h (by simp [hne])
  exact ⟨b, off, e, hb, fun j v hj => hat j v (by rw [List.getElem?_append_left (List.getElem?_eq_some_iff.1 hj).1]; exact hj)⟩
theorem Rd.take {α : Type} {f : α → List Value} {w : World} {A : Option Addr} {l : List α} (h : Rd w A (l.flatMap f)) (k : Nat) : Rd w A ((l.take k).flatMap f) := by
  have e : l.flatMap f = (l.take k).flatMap f ++ (l.drop k).flatMap f := by rw [← List.flatMap_append, List.take_append_drop]
  rw [e] at h; exact h.pre
abbrev iV (n : Int) : Value := .int .i64 n
theorem ints_at {w : World} {b off : Nat} {l : List Int} (h : RdAt w b off (l.map iV)) {k : Nat} {n : Int} (hk : l[k]? = some n) : w.cell? ⟨b, off + k, none⟩ = some (.int .i64 n) :=
  h k _ (by rw [List.getElem?_map, hk]; rfl)
theorem ints_snoc {l : List Int} {k : Nat} {n : Int} (h : l[k]? = some n) : (l.take (k + 1)).map iV = (l.take k).map iV ++ [iV n] := by
  have hk : k < l.length := (List.getElem?_eq_some_iff.1 h).1
  have e : l[k] = n := (List.getElem?_eq_some_iff.1 h).2
  rw [List.take_succ_eq_append_getElem hk, List.map_append, e]; rfl
end Go.Proofs.YtbdacplndmnkhaaGreatDoor
