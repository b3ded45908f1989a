/- Opening of the arguments of the laws: what the form's reading of an argument tells. -/
import Derived.Test.YtijhadafmhbceaaRows
import Derived.Test.YtijhadafmhbceaaDat
import Derived.WalkKit
import Derived.ProofKit
import Derived.OpenShut
import Derived.ShutString
import Derived.Lib.SmallJoins
import Derived.Deep.Slices
import Derived.Deep.Fields
import Derived.ChangeSame
namespace Go.Proofs.Ytijhadafmhbceaa
set_option linter.unusedVariables false
set_option linter.unusedSimpArgs false
open Go.Joins Go.ChangeShapes Go.WideShapes Go.ChangeAt Go.RowKit Go.Deep
open Go.ChangeMaps (open_string shut_string)

theorem i64_wf {n : Int} (h : (Lit.int .i64 n).wf = true) : i64B n := by
  simpa [i64B, Lit.wf, IntKind.min, IntKind.max, IntKind.signed, IntKind.bits] using h

theorem add_none (b off n : Nat) : (⟨b, off, none⟩ : Addr).add n = ⟨b, off + n, none⟩ := by unfold Addr.add; split <;> simp_all
theorem RdAt.append {w : World} {b off : Nat} {xs ys : List Value} (h : RdAt w b off xs) (h' : RdAt w b (off + xs.length) ys) : RdAt w b off (xs ++ ys) := fun j v e => by
  rcases Nat.lt_or_ge j xs.length with hj | hj
  · rw [List.getElem?_append_left hj] at e; exact h j v e
  · rw [List.getElem?_append_right hj] at e
    have := h' (j - xs.length) v e
    rw [show off + xs.length + (j - xs.length) = off + j by omega] at this
    exact this
theorem rows_of {α : Type} (f : α → List Value) (Q : α → Prop) (s : Nat) (hs : ∀ a, (f a).length = s) (w : World) (b off : Nat) : ∀ len : Nat, (∀ i, i < len → ∃ x : α, Q x ∧ ∀ j v, (f x)[j]? = some v → w.cell? ⟨b, off + (i * s + j), none⟩ = some v) →
    ∃ l : List α, l.length = len ∧ (∀ x ∈ l, Q x) ∧ RdAt w b off (l.flatMap f)
  | 0, _ => ⟨[], rfl, by simp, fun j v e => by simp at e⟩
  | n + 1, h => by
    obtain ⟨l, hl, hq, hr⟩ := rows_of f Q s hs w b off n (fun i hi => h i (by omega))
    obtain ⟨x, hx, hc⟩ := h n (by omega)
    refine ⟨l ++ [x], by simp [hl], fun y hy => ?_, ?_⟩
    · rcases List.mem_append.1 hy with h1 | h1
      · exact hq y h1
      · simp at h1; subst h1; exact hx
    · rw [List.flatMap_append]
      refine hr.append (fun j v e => ?_)
      rw [flat_len hs, hl]
      have := hc j v (by simpa using e)
      rw [← Nat.add_assoc] at this; exact this

section
variable {H : Type} {enc : TypeId × Value → H} {P : Program} {w : World} {base : Nat} {spare : Nat → Bool} {held : Bool}
/-- a slice of records, whatever their number of one-cell fields: for every element and every field the cell and its reading -/
theorem open_recs {t e : TypeId} {fs : Array Field} {fuel : Nat} {cs : List Value} {x : DataW H × List MemPlace} (ht : P.underlying t = some (.slice e)) (he : P.underlying e = some (.struct fs))
    (hone : oneCellFields P fs = true) (hC : P.cellsOf e = fs.size) (h : DataW.trod enc P w base spare held fuel t cs = some x) :
    (cs = [.slice none 0 0]) ∨
    ∃ (a : Addr) (len cap : Nat), cs = [.slice (some a) len cap] ∧ len ≤ cap ∧ cap ≤ maxLen ∧
      ∀ i, i < len → ∃ n, ∀ (j : Nat) (f : Field), fs[j]? = some f → ∃ (v : Value) (y : DataW H × List MemPlace), w.cell? (a.add (i * fs.size + j)) = some v ∧ DataW.trod enc P w base spare held n f.type [v] = some y := by
  rcases open_slice ht h with h0 | ⟨a, len, cap, m, n, D, Pl, hcs, hb, hl, hm, hmm, hx, hi⟩
  · exact .inl h0.1
  · refine .inr ⟨a, len, cap, hcs, hl, hm, fun i him => ?_⟩
    have him' : i < m := by rw [hmm]; split <;> omega
    obtain ⟨cs', hc, ht'⟩ := hi i him'
    rw [hC] at hc
    obtain ⟨ys, n', hn', hy, hlen, hyl, hf⟩ := DataW.trod_struct he ht'
    obtain ⟨_, hcl, hat⟩ := World.cells?_some hc
    refine ⟨n', fun j f hj => ?_⟩
    obtain ⟨ho, hk⟩ := hone_of hone j f hj
    have hjl : j < fs.size := (Array.getElem?_eq_some_iff.1 hj).1
    have hcell := hat j hjl
    have hv : cs'[j]? = some (cs'[j]'(by omega)) := List.getElem?_eq_getElem (by omega)
    have h1 := hf j f hj
    rw [ho, hk] at h1
    have hone' : (cs'.drop j).take 1 = [cs'[j]'(by omega)] := by
      rw [List.drop_eq_getElem_cons (by omega)]
      rfl
    rw [hone'] at h1
    have hys : ys[j]? = some (ys[j]'(by omega)) := List.getElem?_eq_getElem (by omega)
    refine ⟨_, _, ?_, h1.trans hys⟩
    rw [← Go.Deep.add_add, hcell, hv]
theorem agg_list {r : Reach} {b0 : Nat} {t : TypeId} {fs : Array Field} {v : Value} {d : DataW H} {p : List MemPlace} (hs : P.underlying t = some (.struct fs)) (hone : oneCellFields P fs = true) (hC : P.cellsOf t = fs.size)
    (hv : Value.okWide P w r b0 t v) (h : DataW.Trod enc P w base spare held t v d p) :
    ∃ (cs : List Value) (n : Nat), v = .agg cs.toArray ∧ cs.length = fs.size ∧ ∀ (j : Nat) (f : Field), fs[j]? = some f → ∃ (u : Value) (y : DataW H × List MemPlace), cs[j]? = some u ∧ DataW.trod enc P w base spare held n f.type [u] = some y := by
  obtain ⟨cs, rfl, hsz⟩ := okWide_struct hs hv
  obtain ⟨fuel, hf⟩ := h
  obtain ⟨ys, n, _, hy, hlen, hyl, hg⟩ := DataW.trod_struct hs hf
  obtain ⟨l⟩ := cs
  have hl : l.length = fs.size := by simpa using hsz.trans hC
  refine ⟨l, n, rfl, hl, fun j f hj => ?_⟩
  obtain ⟨ho, hk⟩ := hone_of hone j f hj
  have hjl : j < fs.size := (Array.getElem?_eq_some_iff.1 hj).1
  have h1 := hg j f hj
  simp only [Value.cells] at h1
  rw [ho, hk] at h1
  have hone' : (l.drop j).take 1 = [l[j]'(by omega)] := by
    rw [List.drop_eq_getElem_cons (by omega)]
    rfl
  rw [hone'] at h1
  have hys : ys[j]? = some (ys[j]'(by omega)) := List.getElem?_eq_getElem (by omega)
  exact ⟨_, _, List.getElem?_eq_getElem (by omega), h1.trans hys⟩
end

set_option maxRecDepth 100000
section
variable {H : Type} {enc : TypeId × Value → H} {w : World}
theorem trod_i64 {n : Nat} {v : Value} {y : DataW H × List MemPlace} (h : DataW.trod enc Try.prog w 0 (fun _ => true) true n 2 [v] = some y) : ∃ k : Int, v = .int .i64 k ∧ i64B k := by
  obtain ⟨k, hk, _, wf⟩ := DataW.trod_int Try.underlying2 h
  exact ⟨k, by simpa using hk, i64_wf wf⟩
theorem trod_str {n : Nat} {v : Value} {y : DataW H × List MemPlace} (h : DataW.trod enc Try.prog w 0 (fun _ => true) true n 9 [v] = some y) : ∃ s : ByteArray, v = .string s ∧ s.size ≤ 9223372036854775807 := by
  obtain ⟨k, hk, _, wf⟩ := DataW.trod_string Try.underlying9 h
  exact ⟨k, by simpa using hk, by unfold maxLen at wf; omega⟩
theorem open_int' {r : Reach} {b0 : Nat} {v : Value} {d : DataW H} {p : List MemPlace} (hv : Value.okWide Try.prog w r b0 2 v) (h : DataW.Trod enc Try.prog w 0 (fun _ => true) true 2 v d p) : ∃ k : Int, v = .int .i64 k ∧ i64B k := by
  obtain ⟨a, rfl, _, _, wf⟩ := open_int Try.underlying2 hv h
  exact ⟨a, rfl, i64_wf wf⟩

/-- a list of numbers as it came in -/
structure IntsIn (w : World) (A : Option Addr) (l : List Int) : Prop where
  rd : Rd w A (l.map iV)
  ln : l.length ≤ 9223372036854775807
  ok : ∀ x ∈ l, i64B x
theorem IntsIn.below {w w' : World} {A : Option Addr} {l : List Int} (h : IntsIn w A l) (hb : Below w.heap.size w w') : IntsIn w' A l := ⟨h.rd.below hb, h.ln, h.ok⟩
theorem map_flat (l : List Int) : l.flatMap (fun n => [iV n]) = l.map iV := by induction l with
  | nil => rfl
  | cons x l ih => simp [List.flatMap_cons, ih]
theorem trod_ints {fuel : Nat} {v : Value} {y : DataW H × List MemPlace} (h : DataW.trod enc Try.prog w 0 (fun _ => true) true fuel 28 [v] = some y) : ∃ A c l, v = .slice A l.length c ∧ IntsIn w A l := by
  rcases open_ints Try.underlying28 Try.underlying2 (by kernel_rfl) h with ⟨hcs, _⟩ | ⟨a, len, c, zs, hcs, _, hl, hm, hz, _, hcell, hwz⟩
  · simp at hcs
    exact ⟨none, 0, [], by rw [hcs]; rfl, Rd.nil, Nat.zero_le _, by simp⟩
  · simp at hcs
    have hz' : len ≤ zs.length := by simp at hz; omega
    have hcap : c ≤ 9223372036854775807 := by unfold maxLen at hm; omega
    by_cases h0 : len = 0
    · subst h0
      exact ⟨some a, c, [], by rw [hcs]; rfl, Rd.nil, Nat.zero_le _, by simp⟩
    · obtain ⟨b, off, spot⟩ := a
      have h00 := hcell 0 (by omega)
      have hsp : spot = none := by simpa [Addr.add] using World.cell?_spot h00
      subst hsp
      refine ⟨some ⟨b, off, none⟩, c, zs.take len, by rw [hcs]; simp; omega, ?_, by simp; omega, fun x hx => i64_wf (hwz x (List.mem_of_mem_take hx))⟩
      refine Rd.mk (fun j v hj => ?_) ?_
      · rw [List.getElem?_map] at hj
        have hjl : j < len := by
          rcases Nat.lt_or_ge j len with h | h
          · exact h
          · rw [List.getElem?_eq_none (by simp; omega)] at hj; simp at hj
        rw [List.getElem?_take, if_pos hjl, List.getElem?_eq_getElem (by omega)] at hj
        simp at hj; subst hj
        have := hcell j (by omega)
        rw [add_none] at this
        rw [this]; simp [List.getElem?_eq_getElem (show j < zs.length by omega)]
      · have := block_lt h00; rw [add_none] at this; exact this
theorem open_ints' {r : Reach} {b0 : Nat} {v : Value} {d : DataW H} {p : List MemPlace} (hv : Value.okWide Try.prog w r b0 28 v) (h : DataW.Trod enc Try.prog w 0 (fun _ => true) true 28 v d p) : ∃ A c l, v = .slice A l.length c ∧ IntsIn w A l := by
  obtain ⟨A, len, cap, rfl⟩ := okWide_slice Try.underlying28 hv
  obtain ⟨fuel, hf⟩ := h
  exact trod_ints hf
theorem cells_Node : Try.prog.cellsOf 100 = 3 := by kernel_rfl
theorem open_Node' {r : Reach} {b0 : Nat} {v : Value} {d : DataW H} {p : List MemPlace} (hv : Value.okWide Try.prog w r b0 100 v) (h : DataW.Trod enc Try.prog w 0 (fun _ => true) true 100 v d p) : ∃ x : Nd, v = x.val ∧ x.ok := by
  obtain ⟨cs, n, rfl, hl, hf⟩ := agg_list Try.underlying100 (by kernel_rfl) cells_Node hv h
  obtain ⟨u0, y0, c0, t0⟩ := hf 0 _ rfl
  obtain ⟨u1, y1, c1, t1⟩ := hf 1 _ rfl
  obtain ⟨u2, y2, c2, t2⟩ := hf 2 _ rfl
  obtain ⟨k0, rfl, w0⟩ := trod_str t0
  obtain ⟨k1, rfl, w1⟩ := trod_i64 t1
  obtain ⟨k2, rfl, w2⟩ := trod_i64 t2
  match cs, hl with
  | [z0, z1, z2], _ =>
    simp at c0 c1 c2
    subst c0 c1 c2
    exact ⟨⟨k0, k1, k2⟩, rfl, w0, w1, w2⟩
theorem trod_NodeS {fuel : Nat} {v : Value} {y : DataW H × List MemPlace} (h : DataW.trod enc Try.prog w 0 (fun _ => true) true fuel 41 [v] = some y) :
    ∃ A c, ∃ l : List Nd, v = .slice A l.length c ∧ Rd w A (l.flatMap Nd.cells) ∧ l.length ≤ 9223372036854775807 ∧ ∀ x ∈ l, x.ok := by
  rcases open_recs Try.underlying41 Try.underlying100 (by kernel_rfl) cells_Node h with hcs | ⟨a, len, c, hcs, hl, hm, hi⟩
  · simp at hcs
    exact ⟨none, 0, [], by rw [hcs]; rfl, Rd.nil, Nat.zero_le _, by simp⟩
  · simp at hcs
    have hcap : c ≤ 9223372036854775807 := by unfold maxLen at hm; omega
    by_cases h0 : len = 0
    · subst h0
      exact ⟨some a, c, [], by rw [hcs]; rfl, Rd.nil, Nat.zero_le _, by simp⟩
    · obtain ⟨b, off, spot⟩ := a
      obtain ⟨n0, hi0⟩ := hi 0 (by omega)
      obtain ⟨v0, _, h00, _⟩ := hi0 0 _ rfl
      have h00' : w.cell? ⟨b, off, spot⟩ = some v0 := by simpa [Addr.add] using h00
      have hsp : spot = none := World.cell?_spot h00'
      subst hsp
      obtain ⟨l, hll, hlo, hr⟩ := rows_of Nd.cells Nd.ok 3 Nd.len w b off len (fun i hlt => by
        obtain ⟨n, hf⟩ := hi i hlt
        obtain ⟨u0, y0, c0, t0⟩ := hf 0 _ rfl
        obtain ⟨u1, y1, c1, t1⟩ := hf 1 _ rfl
        obtain ⟨u2, y2, c2, t2⟩ := hf 2 _ rfl
        obtain ⟨k0, rfl, w0⟩ := trod_str t0
        obtain ⟨k1, rfl, w1⟩ := trod_i64 t1
        obtain ⟨k2, rfl, w2⟩ := trod_i64 t2
        rw [add_none] at c0
        rw [add_none] at c1
        rw [add_none] at c2
        refine ⟨⟨k0, k1, k2⟩, ⟨w0, w1, w2⟩, fun j v e => ?_⟩
        match j, e with
        | 0, e => simp [Nd.cells] at e; subst e; exact c0
        | 1, e => simp [Nd.cells] at e; subst e; exact c1
        | 2, e => simp [Nd.cells] at e; subst e; exact c2
        | j + 3, e => simp [Nd.cells] at e)
      subst hll
      exact ⟨some ⟨b, off, none⟩, c, l, hcs, Rd.mk hr (block_lt h00'), by omega, hlo⟩
theorem open_NodeS' {r : Reach} {b0 : Nat} {v : Value} {d : DataW H} {p : List MemPlace} (hv : Value.okWide Try.prog w r b0 41 v) (h : DataW.Trod enc Try.prog w 0 (fun _ => true) true 41 v d p) :
    ∃ A c, ∃ l : List Nd, v = .slice A l.length c ∧ Rd w A (l.flatMap Nd.cells) ∧ l.length ≤ 9223372036854775807 ∧ ∀ x ∈ l, x.ok := by
  obtain ⟨A, len, cap, rfl⟩ := okWide_slice Try.underlying41 hv
  obtain ⟨fuel, hf⟩ := h
  exact trod_NodeS hf
theorem cells_Pipe : Try.prog.cellsOf 104 = 5 := by kernel_rfl
theorem open_Pipe' {r : Reach} {b0 : Nat} {v : Value} {d : DataW H} {p : List MemPlace} (hv : Value.okWide Try.prog w r b0 104 v) (h : DataW.Trod enc Try.prog w 0 (fun _ => true) true 104 v d p) : ∃ x : Pp, v = x.val ∧ x.ok := by
  obtain ⟨cs, n, rfl, hl, hf⟩ := agg_list Try.underlying104 (by kernel_rfl) cells_Pipe hv h
  obtain ⟨u0, y0, c0, t0⟩ := hf 0 _ rfl
  obtain ⟨u1, y1, c1, t1⟩ := hf 1 _ rfl
  obtain ⟨u2, y2, c2, t2⟩ := hf 2 _ rfl
  obtain ⟨u3, y3, c3, t3⟩ := hf 3 _ rfl
  obtain ⟨u4, y4, c4, t4⟩ := hf 4 _ rfl
  obtain ⟨k0, rfl, w0⟩ := trod_i64 t0
  obtain ⟨k1, rfl, w1⟩ := trod_i64 t1
  obtain ⟨k2, rfl, w2⟩ := trod_i64 t2
  obtain ⟨k3, rfl, w3⟩ := trod_i64 t3
  obtain ⟨k4, rfl, w4⟩ := trod_i64 t4
  match cs, hl with
  | [z0, z1, z2, z3, z4], _ =>
    simp at c0 c1 c2 c3 c4
    subst c0 c1 c2 c3 c4
    exact ⟨⟨k0, k1, k2, k3, k4⟩, rfl, w0, w1, w2, w3, w4⟩
theorem trod_PipeS {fuel : Nat} {v : Value} {y : DataW H × List MemPlace} (h : DataW.trod enc Try.prog w 0 (fun _ => true) true fuel 42 [v] = some y) :
    ∃ A c, ∃ l : List Pp, v = .slice A l.length c ∧ Rd w A (l.flatMap Pp.cells) ∧ l.length ≤ 9223372036854775807 ∧ ∀ x ∈ l, x.ok := by
  rcases open_recs Try.underlying42 Try.underlying104 (by kernel_rfl) cells_Pipe h with hcs | ⟨a, len, c, hcs, hl, hm, hi⟩
  · simp at hcs
    exact ⟨none, 0, [], by rw [hcs]; rfl, Rd.nil, Nat.zero_le _, by simp⟩
  · simp at hcs
    have hcap : c ≤ 9223372036854775807 := by unfold maxLen at hm; omega
    by_cases h0 : len = 0
    · subst h0
      exact ⟨some a, c, [], by rw [hcs]; rfl, Rd.nil, Nat.zero_le _, by simp⟩
    · obtain ⟨b, off, spot⟩ := a
      obtain ⟨n0, hi0⟩ := hi 0 (by omega)
      obtain ⟨v0, _, h00, _⟩ := hi0 0 _ rfl
      have h00' : w.cell? ⟨b, off, spot⟩ = some v0 := by simpa [Addr.add] using h00
      have hsp : spot = none := World.cell?_spot h00'
      subst hsp
      obtain ⟨l, hll, hlo, hr⟩ := rows_of Pp.cells Pp.ok 5 Pp.len w b off len (fun i hlt => by
        obtain ⟨n, hf⟩ := hi i hlt
        obtain ⟨u0, y0, c0, t0⟩ := hf 0 _ rfl
        obtain ⟨u1, y1, c1, t1⟩ := hf 1 _ rfl
        obtain ⟨u2, y2, c2, t2⟩ := hf 2 _ rfl
        obtain ⟨u3, y3, c3, t3⟩ := hf 3 _ rfl
        obtain ⟨u4, y4, c4, t4⟩ := hf 4 _ rfl
        obtain ⟨k0, rfl, w0⟩ := trod_i64 t0
        obtain ⟨k1, rfl, w1⟩ := trod_i64 t1
        obtain ⟨k2, rfl, w2⟩ := trod_i64 t2
        obtain ⟨k3, rfl, w3⟩ := trod_i64 t3
        obtain ⟨k4, rfl, w4⟩ := trod_i64 t4
        rw [add_none] at c0
        rw [add_none] at c1
        rw [add_none] at c2
        rw [add_none] at c3
        rw [add_none] at c4
        refine ⟨⟨k0, k1, k2, k3, k4⟩, ⟨w0, w1, w2, w3, w4⟩, fun j v e => ?_⟩
        match j, e with
        | 0, e => simp [Pp.cells] at e; subst e; exact c0
        | 1, e => simp [Pp.cells] at e; subst e; exact c1
        | 2, e => simp [Pp.cells] at e; subst e; exact c2
        | 3, e => simp [Pp.cells] at e; subst e; exact c3
        | 4, e => simp [Pp.cells] at e; subst e; exact c4
        | j + 5, e => simp [Pp.cells] at e)
      subst hll
      exact ⟨some ⟨b, off, none⟩, c, l, hcs, Rd.mk hr (block_lt h00'), by omega, hlo⟩
theorem open_PipeS' {r : Reach} {b0 : Nat} {v : Value} {d : DataW H} {p : List MemPlace} (hv : Value.okWide Try.prog w r b0 42 v) (h : DataW.Trod enc Try.prog w 0 (fun _ => true) true 42 v d p) :
    ∃ A c, ∃ l : List Pp, v = .slice A l.length c ∧ Rd w A (l.flatMap Pp.cells) ∧ l.length ≤ 9223372036854775807 ∧ ∀ x ∈ l, x.ok := by
  obtain ⟨A, len, cap, rfl⟩ := okWide_slice Try.underlying42 hv
  obtain ⟨fuel, hf⟩ := h
  exact trod_PipeS hf
theorem cells_Network : Try.prog.cellsOf 44 = 2 := by kernel_rfl
theorem open_network' {r : Reach} {b0 : Nat} {v : Value} {d : DataW H} {p : List MemPlace} (hv : Value.okWide Try.prog w r b0 44 v) (h : DataW.Trod enc Try.prog w 0 (fun _ => true) true 44 v d p) :
    ∃ A B c d', ∃ N : Net, v = .agg #[.slice A N.nodes.length c, .slice B N.pipes.length d'] ∧ (Rd w A (N.nodes.flatMap Nd.cells) ∧ N.nodes.length ≤ 9223372036854775807 ∧ ∀ x ∈ N.nodes, x.ok) ∧ (Rd w B (N.pipes.flatMap Pp.cells) ∧ N.pipes.length ≤ 9223372036854775807 ∧ ∀ x ∈ N.pipes, x.ok) := by
  obtain ⟨cs, n, rfl, hl, hf⟩ := agg_list Try.underlying44 (by kernel_rfl) cells_Network hv h
  obtain ⟨u0, y0, c0, t0⟩ := hf 0 _ rfl
  obtain ⟨u1, y1, c1, t1⟩ := hf 1 _ rfl
  obtain ⟨A, c, l, rfl, a1, a2, a3⟩ := trod_NodeS t0
  obtain ⟨B, d', ps, rfl, b1, b2, b3⟩ := trod_PipeS t1
  match cs, hl with
  | [z0, z1], _ =>
    simp at c0 c1
    subst c0 c1
    exact ⟨A, B, c, d', ⟨l, ps⟩, rfl, ⟨a1, a2, a3⟩, ⟨b1, b2, b3⟩⟩
end
end Go.Proofs.Ytijhadafmhbceaa
