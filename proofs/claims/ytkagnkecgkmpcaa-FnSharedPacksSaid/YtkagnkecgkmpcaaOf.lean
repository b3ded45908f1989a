/- What flows out of the nodes, and what they hold after an hour. -/
import Derived.Test.YtkagnkecgkmpcaaHr
import Derived.Test.YtkagnkecgkmpcaaAp2
import Derived.Deep.RegionHeld3
import Derived.IntWalk
namespace Go.Proofs.Ytkagnkecgkmpcaa
set_option linter.unusedVariables false
set_option linter.unusedSimpArgs false
open Go.RowKit
def outF : List Int → List Pp → List Int → List Int
  | acc, p :: ps, x :: xs => outF (addAt (addAt acc p.f.toNat x) p.t.toNat (-x)) ps xs
  | acc, _, _ => acc
theorem outF_len : ∀ (ps : List Pp) (xs acc : List Int), (outF acc ps xs).length = acc.length
  | [], _, acc => by simp [outF]
  | p :: ps, [], acc => by simp [outF]
  | p :: ps, x :: xs, acc => by rw [outF, outF_len ps xs, addAt_len, addAt_len]
def outL (N : Net) (fl : List Int) : List Int := outF (List.replicate N.nodes.length 0) N.pipes fl
theorem outL_len (N : Net) (fl : List Int) : (outL N fl).length = N.nodes.length := by rw [outL, outF_len]; simp
theorem outF_bd : ∀ (ps : List Pp) (xs acc : List Int) (b : Int), 0 ≤ b → (∀ y ∈ acc, -b ≤ y ∧ y ≤ b) → (∀ x ∈ xs, -30000 ≤ x ∧ x ≤ 30000) → ∀ y ∈ outF acc ps xs, -(b + ps.length * 60000) ≤ y ∧ y ≤ b + ps.length * 60000
  | [], _, acc, b, _, h, _ => by simpa [outF] using h
  | p :: ps, [], acc, b, hb, h, _ => by
    intro y hy
    have := h y (by simpa [outF] using hy)
    simp only [List.length_cons]; omega
  | p :: ps, x :: xs, acc, b, hb, h, hx => by
    intro y hy
    rw [outF] at hy
    have h1 := hx x (by simp)
    have h2 := addAt_bd (l := acc) (k := p.f.toNat) (x := x) (a := -30000) (b := 30000) h (by omega) (by omega) (by omega) (by omega)
    have h3 := addAt_bd (l := addAt acc p.f.toNat x) (k := p.t.toNat) (x := -x) (a := -30000) (b := 30000) h2 (by omega) (by omega) (by omega) (by omega)
    have := outF_bd ps xs _ (b + 60000) (by omega) (fun z hz => by have := h3 z hz; omega) (fun z hz => hx z (by simp [hz])) y hy
    simp only [List.length_cons]; omega
theorem outL_bd {N : Net} {fl : List Int} (hO : N.Ok) (h : ∀ x ∈ fl, -30000 ≤ x ∧ x ≤ 30000) : ∀ y ∈ outL N fl, -2400000 ≤ y ∧ y ≤ 2400000 := by
  intro y hy
  have := outF_bd N.pipes fl (List.replicate N.nodes.length 0) 0 (by omega) (fun z hz => by have := (List.mem_replicate.1 hz).2; omega) h y hy
  have := hO.p1
  omega
theorem outF_step {acc : List Int} {ps : List Pp} {xs : List Int} {k : Nat} {p : Pp} {x : Int} (hp : ps[k]? = some p) (hx : xs[k]? = some x) : outF acc (ps.drop k) (xs.drop k) = outF (addAt (addAt acc p.f.toNat x) p.t.toNat (-x)) (ps.drop (k + 1)) (xs.drop (k + 1)) := by
  rw [drop_consI hp, drop_consI hx, outF]
theorem outF_end {acc : List Int} {ps : List Pp} {xs : List Int} {k : Nat} (h : ¬ k < ps.length) : outF acc (ps.drop k) (xs.drop k) = acc := by
  rw [drop_endI h]; simp [outF]
def addS (s : Int) (a b : List Int) : List Int := List.zipWith (fun x y => x + s * y) a b
theorem addS_len {s : Int} {a b : List Int} (h : a.length ≤ b.length) : (addS s a b).length = a.length := by simp [addS]; omega
theorem addS_get {s : Int} {a b : List Int} {i : Nat} {x y : Int} (hx : a[i]? = some x) (hy : b[i]? = some y) : (addS s a b)[i]? = some (x + s * y) := by simp only [addS, List.getElem?_zipWith, hx, hy]
theorem addS_bd {s la ha lb hb : Int} {a b : List Int} (hs : s = 1 ∨ s = -1) (h1 : ∀ x ∈ a, la ≤ x ∧ x ≤ ha) (h2 : ∀ x ∈ b, -lb ≤ x ∧ x ≤ lb) (e : hb = lb) : ∀ y ∈ addS s a b, la - lb ≤ y ∧ y ≤ ha + lb := by
  intro y hy
  obtain ⟨i, hi⟩ := List.getElem?_of_mem hy
  simp only [addS, List.getElem?_zipWith] at hi
  cases ha' : a[i]? with
  | none => simp [ha'] at hi
  | some x =>
    cases hb' : b[i]? with
    | none => simp [ha', hb'] at hi
    | some z =>
      simp [ha', hb'] at hi
      have g1 := h1 x (List.mem_of_getElem? ha')
      have g2 := h2 z (List.mem_of_getElem? hb')
      rcases hs with rfl | rfl <;> omega
/-- what the nodes hold after an hour -/
def nextL (N : Net) (now su fl : List Int) : List Int := addS (-1) (addS 1 now su) (outL N fl)
theorem nextL_len {N : Net} {now su fl : List Int} (h1 : now.length = N.nodes.length) (h2 : su.length = N.nodes.length) : (nextL N now su fl).length = N.nodes.length := by
  rw [nextL, addS_len (by rw [addS_len (by omega), outL_len]; omega), addS_len (by omega)]; exact h1
theorem nextL_get {N : Net} {now su fl : List Int} {i : Nat} {a b c : Int} (h1 : now[i]? = some a) (h2 : su[i]? = some b) (h3 : (outL N fl)[i]? = some c) : (nextL N now su fl)[i]? = some (a + (b - c)) := by
  rw [nextL, addS_get (addS_get h1 h2) h3]; congr 1; omega
theorem pipe_ft {N : Net} (hO : N.Ok) {p : Pp} (hp : p ∈ N.pipes) : 0 ≤ p.f ∧ p.f ≤ (N.nodes.length : Int) - 1 ∧ 0 ≤ p.t ∧ p.t ≤ (N.nodes.length : Int) - 1 := by
  have := hO.pipes p hp
  simp only [pipeB, Bool.and_eq_true, inB_iff] at this
  omega
end Go.Proofs.Ytkagnkecgkmpcaa
