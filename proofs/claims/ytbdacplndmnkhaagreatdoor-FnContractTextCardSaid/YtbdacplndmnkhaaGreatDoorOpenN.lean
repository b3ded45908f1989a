/- Opening of the arguments of the laws: what the form's reading of an argument tells. -/
import Derived.Test.YtbdacplndmnkhaaGreatDoorRows
import Derived.Test.YtbdacplndmnkhaaGreatDoorDat
import Derived.WalkKit
import Derived.ProofKit
import Derived.OpenShut
import Derived.ShutString
import Derived.Lib.SmallJoins
import Derived.Deep.Slices
import Derived.Deep.Fields
import Derived.ChangeSame
namespace Go.Proofs.YtbdacplndmnkhaaGreatDoor
set_option linter.unusedVariables false
set_option linter.unusedSimpArgs false
open Go.Joins Go.ChangeShapes Go.WideShapes Go.ChangeAt Go.RowKit Go.Deep
open Go.ChangeMaps (open_string shut_string)

theorem i64_wf {n : Int} (h : (Lit.int .i64 n).wf = true) : i64B n := by
  simpa [i64B, Lit.wf, IntKind.min, IntKind.max, IntKind.signed, IntKind.bits] using h

theorem add_none (b off n : Nat) : (⟨b, off, none⟩ : Addr).add n = ⟨b, off + n, none⟩ := by unfold Addr.add; split <;> simp_all
theorem RdAt.append {w : World} {b off : Nat} {xs ys : List Value} (h : RdAt w b off xs) (h' : RdAt w b (off + xs.length) ys) : RdAt w b off (xs ++ ys) := fun j v e => by
  rcases Nat.lt_or_ge j xs.length with hj | hj
  · rw [List.getElem?_append_left hj] at e; exact h j v e
  · rw [List.getElem?_append_right hj] at e
    have := h' (j - xs.length) v e
    rw [show off + xs.length + (j - xs.length) = off + j by omega] at this
    exact this
theorem rows_of {α : Type} (f : α → List Value) (Q : α → Prop) (s : Nat) (hs : ∀ a, (f a).length = s) (w : World) (b off : Nat) : ∀ len : Nat, (∀ i, i < len → ∃ x : α, Q x ∧ ∀ j v, (f x)[j]? = some v → w.cell? ⟨b, off + (i * s + j), none⟩ = some v) →
    ∃ l : List α, l.length = len ∧ (∀ x ∈ l, Q x) ∧ RdAt w b off (l.flatMap f)
  | 0, _ => ⟨[], rfl, by simp, fun j v e => by simp at e⟩
  | n + 1, h => by
    obtain ⟨l, hl, hq, hr⟩ := rows_of f Q s hs w b off n (fun i hi => h i (by omega))
    obtain ⟨x, hx, hc⟩ := h n (by omega)
    refine ⟨l ++ [x], by simp [hl], fun y hy => ?_, ?_⟩
    · rcases List.mem_append.1 hy with h1 | h1
      · exact hq y h1
      · simp at h1; subst h1; exact hx
    · rw [List.flatMap_append]
      refine hr.append (fun j v e => ?_)
      rw [flat_len hs, hl]
      have := hc j v (by simpa using e)
      rw [← Nat.add_assoc] at this; exact this

section
variable {H : Type} {enc : TypeId × Value → H} {P : Program} {w : World} {base : Nat} {spare : Nat → Bool} {held : Bool}
/-- a slice of records, whatever their number of one-cell fields: for every element and every field the cell and its reading -/
theorem open_recs {t e : TypeId} {fs : Array Field} {fuel : Nat} {cs : List Value} {x : DataW H × List MemPlace} (ht : P.underlying t = some (.slice e)) (he : P.underlying e = some (.struct fs))
    (hone : oneCellFields P fs = true) (hC : P.cellsOf e = fs.size) (h : DataW.trod enc P w base spare held fuel t cs = some x) :
    (cs = [.slice none 0 0]) ∨
    ∃ (a : Addr) (len cap : Nat), cs = [.slice (some a) len cap] ∧ len ≤ cap ∧ cap ≤ maxLen ∧
      ∀ i, i < len → ∃ n, ∀ (j : Nat) (f : Field), fs[j]? = some f → ∃ (v : Value) (y : DataW H × List MemPlace), w.cell? (a.add (i * fs.size + j)) = some v ∧ DataW.trod enc P w base spare held n f.type [v] = some y := by
  rcases open_slice ht h with h0 | ⟨a, len, cap, m, n, D, Pl, hcs, hb, hl, hm, hmm, hx, hi⟩
  · exact .inl h0.1
  · refine .inr ⟨a, len, cap, hcs, hl, hm, fun i him => ?_⟩
    have him' : i < m := by rw [hmm]; split <;> omega
    obtain ⟨cs', hc, ht'⟩ := hi i him'
    rw [hC] at hc
    obtain ⟨ys, n', hn', hy, hlen, hyl, hf⟩ := DataW.trod_struct he ht'
    obtain ⟨_, hcl, hat⟩ := World.cells?_some hc
    refine ⟨n', fun j f hj => ?_⟩
    obtain ⟨ho, hk⟩ := hone_of hone j f hj
    have hjl : j < fs.size := (Array.getElem?_eq_some_iff.1 hj).1
    have hcell := hat j hjl
    have hv : cs'[j]? = some (cs'[j]'(by omega)) := List.getElem?_eq_getElem (by omega)
    have h1 := hf j f hj
    rw [ho, hk] at h1
    have hone' : (cs'.drop j).take 1 = [cs'[j]'(by omega)] := by
      rw [List.drop_eq_getElem_cons (by omega)]
      rfl
    rw [hone'] at h1
    have hys : ys[j]? = some (ys[j]'(by omega)) := List.getElem?_eq_getElem (by omega)
    refine ⟨_, _, ?_, h1.trans hys⟩
    rw [← Go.Deep.add_add, hcell, hv]
theorem agg_list {r : Reach} {b0 : Nat} {t : TypeId} {fs : Array Field} {v : Value} {d : DataW H} {p : List MemPlace} (hs : P.underlying t = some (.struct fs)) (hone : oneCellFields P fs = true) (hC : P.cellsOf t = fs.size)
    (hv : Value.okWide P w r b0 t v) (h : DataW.Trod enc P w base spare held t v d p) :
    ∃ (cs : List Value) (n : Nat), v = .agg cs.toArray ∧ cs.length = fs.size ∧ ∀ (j : Nat) (f : Field), fs[j]? = some f → ∃ (u : Value) (y : DataW H × List MemPlace), cs[j]? = some u ∧ DataW.trod enc P w base spare held n f.type [u] = some y := by
  obtain ⟨cs, rfl, hsz⟩ := okWide_struct hs hv
  obtain ⟨fuel, hf⟩ := h
  obtain ⟨ys, n, _, hy, hlen, hyl, hg⟩ := DataW.trod_struct hs hf
  obtain ⟨l⟩ := cs
  have hl : l.length = fs.size := by simpa using hsz.trans hC
  refine ⟨l, n, rfl, hl, fun j f hj => ?_⟩
  obtain ⟨ho, hk⟩ := hone_of hone j f hj
  have hjl : j < fs.size := (Array.getElem?_eq_some_iff.1 hj).1
  have h1 := hg j f hj
  simp only [Value.cells] at h1
  rw [ho, hk] at h1
  have hone' : (l.drop j).take 1 = [l[j]'(by omega)] := by
    rw [List.drop_eq_getElem_cons (by omega)]
    rfl
  rw [hone'] at h1
  have hys : ys[j]? = some (ys[j]'(by omega)) := List.getElem?_eq_getElem (by omega)
  exact ⟨_, _, List.getElem?_eq_getElem (by omega), h1.trans hys⟩
end

set_option maxRecDepth 100000
section
variable {H : Type} {enc : TypeId × Value → H} {w : World}
theorem trod_i64 {n : Nat} {v : Value} {y : DataW H × List MemPlace} (h : DataW.trod enc Tryz.prog w 0 (fun _ => true) true n 2 [v] = some y) : ∃ k : Int, v = .int .i64 k ∧ i64B k := by
  obtain ⟨k, hk, _, wf⟩ := DataW.trod_int Tryz.underlying2 h
  exact ⟨k, by simpa using hk, i64_wf wf⟩
theorem trod_str {n : Nat} {v : Value} {y : DataW H × List MemPlace} (h : DataW.trod enc Tryz.prog w 0 (fun _ => true) true n 9 [v] = some y) : ∃ s : ByteArray, v = .string s ∧ s.size ≤ 9223372036854775807 := by
  obtain ⟨k, hk, _, wf⟩ := DataW.trod_string Tryz.underlying9 h
  exact ⟨k, by simpa using hk, by unfold maxLen at wf; omega⟩
theorem open_int' {r : Reach} {b0 : Nat} {v : Value} {d : DataW H} {p : List MemPlace} (hv : Value.okWide Tryz.prog w r b0 2 v) (h : DataW.Trod enc Tryz.prog w 0 (fun _ => true) true 2 v d p) : ∃ k : Int, v = .int .i64 k ∧ i64B k := by
  obtain ⟨a, rfl, _, _, wf⟩ := open_int Tryz.underlying2 hv h
  exact ⟨a, rfl, i64_wf wf⟩

/-- a list of numbers as it came in -/
structure IntsIn (w : World) (A : Option Addr) (l : List Int) : Prop where
  rd : Rd w A (l.map iV)
  ln : l.length ≤ 9223372036854775807
  ok : ∀ x ∈ l, i64B x
theorem IntsIn.below {w w' : World} {A : Option Addr} {l : List Int} (h : IntsIn w A l) (hb : Below w.heap.size w w') : IntsIn w' A l := ⟨h.rd.below hb, h.ln, h.ok⟩
theorem map_flat (l : List Int) : l.flatMap (fun n => [iV n]) = l.map iV := by induction l with
  | nil => rfl
  | cons x l ih => simp [List.flatMap_cons, ih]
end
end Go.Proofs.YtbdacplndmnkhaaGreatDoor
