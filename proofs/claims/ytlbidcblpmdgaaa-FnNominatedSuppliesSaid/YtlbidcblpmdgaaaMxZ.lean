/- A drawn region that makes lists of numbers (each by one operation, or several by one call) and one box, which is written last: what holds while its operations come up. -/
import Derived.Test.YtlbidcblpmdgaaaNt4
import Derived.Test.YtlbidcblpmdgaaaSu
import Derived.Test.YtlbidcblpmdgaaaCt1
import Derived.Test.YtlbidcblpmdgaaaCp
import Derived.Test.YtlbidcblpmdgaaaAp2
import Derived.Deep.RegionHeld3
import Derived.IntWalk
import Derived.Test.YtlbidcblpmdgaaaMk
import Derived.Test.YtlbidcblpmdgaaaNt3
import Derived.Laws.BytesArg
import Derived.Test.YtlbidcblpmdgaaaTb
import Derived.Test.YtlbidcblpmdgaaaDr
namespace Go.Proofs.Ytlbidcblpmdgaaa
set_option linter.unusedVariables false
set_option linter.unusedSimpArgs false
open Go.RowKit

abbrev bufV (Al Ah An : Option Addr) (nl nh nn cl ch cn : Nat) : Value := .agg #[.slice Al nl cl, .slice Ah nh ch, .slice An nn cn]
structure BufOk (n : Nat) (ll lh ln : List Int) : Prop where
  l1 : ll.length = n
  l2 : lh.length = n
  l3 : ln.length = n
  el : ∀ (i : Nat) (a b c : Int), ll[i]? = some a → lh[i]? = some b → ln[i]? = some c → 0 ≤ a ∧ a ≤ c ∧ c ≤ b ∧ b ≤ 1000000000
open Classical in
noncomputable def bufB (n : Nat) (ll lh ln : List Int) : Bool := decide (BufOk n ll lh ln)
theorem bufB_t {n : Nat} {ll lh ln : List Int} (h : BufOk n ll lh ln) : bufB n ll lh ln = true := by simp [bufB, h]
theorem bufB_f {n : Nat} {ll lh ln : List Int} (h : ¬ BufOk n ll lh ln) : bufB n ll lh ln = false := by simp [bufB, h]
theorem bufB_ok {n : Nat} {ll lh ln : List Int} (h : bufB n ll lh ln = true) : BufOk n ll lh ln := by simpa [bufB] using h
structure BufAt (w : World) (Al Ah An : Option Addr) (ll lh ln : List Int) : Prop where
  r1 : Rd w Al (ll.map iV)
  r2 : Rd w Ah (lh.map iV)
  r3 : Rd w An (ln.map iV)
  s1 : ll.length ≤ 1048576
  s2 : lh.length ≤ 1048576
  s3 : ln.length ≤ 1048576
theorem BufAt.below {w w' : World} {Al Ah An : Option Addr} {ll lh ln : List Int} (h : BufAt w Al Ah An ll lh ln) (hb : Below w.heap.size w w') : BufAt w' Al Ah An ll lh ln :=
  ⟨h.r1.below hb, h.r2.below hb, h.r3.below hb, h.s1, h.s2, h.s3⟩



noncomputable def bufC (N : Net) (ll lh ln : List Int) : Int := if netB N = false then 1 else if bufB N.nodes.length ll lh ln = false then 3 else 0
theorem bufC_of {N : Net} {ll lh ln : List Int} (h : bufC N ll lh ln = 0) : N.Ok ∧ BufOk N.nodes.length ll lh ln := by
  unfold bufC at h
  by_cases h1 : netB N = false
  · simp [h1] at h
  · by_cases h2 : bufB N.nodes.length ll lh ln = false
    · simp [h1, h2] at h
    · exact ⟨netB_ok (by simpa using h1), bufB_ok (by simpa using h2)⟩





end Go.Proofs.Ytlbidcblpmdgaaa
namespace Go.Proofs.Ytlbidcblpmdgaaa
set_option linter.unusedVariables false
set_option linter.unusedSimpArgs false
open Go.RowKit
def listB (m : Nat) (l : List Int) : Bool := decide (l.length = m) && allB (-30000) 30000 l
theorem listB_of {m : Nat} {l : List Int} (h : listB m l = true) : l.length = m ∧ ∀ x ∈ l, -30000 ≤ x ∧ x ≤ 30000 := by
  simp [listB] at h; exact ⟨h.1, allB_iff.1 h.2⟩
theorem lenB (a b : Nat) : ((a : Int) == (b : Int)) = decide (a = b) := by
  by_cases h : a = b
  · simp [h]
  · have : ¬ (a : Int) = b := by omega
    simp [h, this]
noncomputable def flowC (N : Net) (fl : List Int) : Int := if netB N = false then 1 else if listB N.pipes.length fl = false then 3 else 0
def KeepOk (ps : List Pp) (fl : List Int) : Prop := ∀ (i : Nat) (x : Int) (p : Pp), fl[i]? = some x → ps[i]? = some p → absI x ≤ p.lim
open Classical in
noncomputable def keepB (N : Net) (fl : List Int) : Bool := decide (flowC N fl = 0 ∧ KeepOk N.pipes fl)
theorem flow_of {N : Net} {fl : List Int} (h : flowC N fl = 0) : N.Ok ∧ fl.length = N.pipes.length ∧ ∀ x ∈ fl, -30000 ≤ x ∧ x ≤ 30000 := by
  unfold flowC at h
  by_cases h1 : netB N = false
  · simp [h1] at h
  · by_cases h2 : listB N.pipes.length fl = false
    · simp [h1, h2] at h
    · exact ⟨netB_ok (by simpa using h1), listB_of (by simpa using h2)⟩
end Go.Proofs.Ytlbidcblpmdgaaa
namespace Go.Proofs.Ytlbidcblpmdgaaa
set_option linter.unusedVariables false
set_option linter.unusedSimpArgs false
open Go.RowKit
structure Hr where
  A : Option Addr
  B : Option Addr
  c : Nat
  d : Nat
  fl : List Int
  su : List Int
abbrev Hr.val (x : Hr) : Value := .agg #[.slice x.A x.fl.length x.c, .slice x.B x.su.length x.d]
def Hr.cells (x : Hr) : List Value := [.slice x.A x.fl.length x.c, .slice x.B x.su.length x.d]
theorem Hr.len (x : Hr) : x.cells.length = 2 := rfl
structure HrAt (w : World) (x : Hr) : Prop where
  r1 : Rd w x.A (x.fl.map iV)
  r2 : Rd w x.B (x.su.map iV)
  s1 : x.fl.length ≤ 1048576
  s2 : x.su.length ≤ 1048576
theorem HrAt.below {w w' : World} {x : Hr} (h : HrAt w x) (hb : Below w.heap.size w w') : HrAt w' x := ⟨h.r1.below hb, h.r2.below hb, h.s1, h.s2⟩
def hrB (m n : Nat) (x : Hr) : Bool := listB m x.fl && supB n x.su
def hrsF (m n : Nat) : List Hr → Bool
  | [] => true
  | x :: l => hrB m n x && hrsF m n l
theorem hrsF_all {m n : Nat} : ∀ {l : List Hr}, hrsF m n l = true ↔ ∀ x ∈ l, hrB m n x = true
  | [] => by simp [hrsF]
  | x :: l => by simp [hrsF, hrsF_all (l := l)]
theorem supB_of {n : Nat} {l : List Int} (h : supB n l = true) : l.length = n ∧ ∀ x ∈ l, -30000 ≤ x ∧ x ≤ 30000 := by
  simp [supB] at h; exact ⟨h.1, allB_iff.1 h.2⟩
theorem hrB_of {m n : Nat} {x : Hr} (h : hrB m n x = true) : (x.fl.length = m ∧ ∀ y ∈ x.fl, -30000 ≤ y ∧ y ≤ 30000) ∧ (x.su.length = n ∧ ∀ y ∈ x.su, -30000 ≤ y ∧ y ≤ 30000) := by
  simp only [hrB, Bool.and_eq_true] at h; exact ⟨listB_of h.1, supB_of h.2⟩
noncomputable def hrsC (N : Net) (ll lh ln : List Int) (hs : List Hr) : Int := if bufC N ll lh ln ≠ 0 then bufC N ll lh ln else if hrsF N.pipes.length N.nodes.length hs = false then 2 else 0
noncomputable def hrC (N : Net) (ll lh ln : List Int) (x : Hr) : Int := if bufC N ll lh ln ≠ 0 then bufC N ll lh ln else if hrB N.pipes.length N.nodes.length x = false then 2 else 0
theorem hrsC_one (N : Net) (ll lh ln : List Int) (x : Hr) : hrsC N ll lh ln [x] = hrC N ll lh ln x := by simp [hrsC, hrC, hrsF]
theorem hrC_of {N : Net} {ll lh ln : List Int} {x : Hr} (h : hrC N ll lh ln x = 0) : bufC N ll lh ln = 0 ∧ hrB N.pipes.length N.nodes.length x = true := by
  unfold hrC at h
  by_cases h1 : bufC N ll lh ln = 0
  · simp only [h1, ne_eq, not_true, if_false] at h
    cases h2 : hrB N.pipes.length N.nodes.length x
    · simp [h2] at h
    · exact ⟨h1, rfl⟩
  · simp [h1] at h
end Go.Proofs.Ytlbidcblpmdgaaa
namespace Go.Proofs.Ytlbidcblpmdgaaa
set_option linter.unusedVariables false
set_option linter.unusedSimpArgs false
open Go.RowKit
def outF : List Int → List Pp → List Int → List Int
  | acc, p :: ps, x :: xs => outF (addAt (addAt acc p.f.toNat x) p.t.toNat (-x)) ps xs
  | acc, _, _ => acc
theorem outF_len : ∀ (ps : List Pp) (xs acc : List Int), (outF acc ps xs).length = acc.length
  | [], _, acc => by simp [outF]
  | p :: ps, [], acc => by simp [outF]
  | p :: ps, x :: xs, acc => by rw [outF, outF_len ps xs, addAt_len, addAt_len]
def outL (N : Net) (fl : List Int) : List Int := outF (List.replicate N.nodes.length 0) N.pipes fl
theorem outL_len (N : Net) (fl : List Int) : (outL N fl).length = N.nodes.length := by rw [outL, outF_len]; simp
theorem outF_bd : ∀ (ps : List Pp) (xs acc : List Int) (b : Int), 0 ≤ b → (∀ y ∈ acc, -b ≤ y ∧ y ≤ b) → (∀ x ∈ xs, -30000 ≤ x ∧ x ≤ 30000) → ∀ y ∈ outF acc ps xs, -(b + ps.length * 60000) ≤ y ∧ y ≤ b + ps.length * 60000
  | [], _, acc, b, _, h, _ => by simpa [outF] using h
  | p :: ps, [], acc, b, hb, h, _ => by
    intro y hy
    have := h y (by simpa [outF] using hy)
    simp only [List.length_cons]; omega
  | p :: ps, x :: xs, acc, b, hb, h, hx => by
    intro y hy
    rw [outF] at hy
    have h1 := hx x (by simp)
    have h2 := addAt_bd (l := acc) (k := p.f.toNat) (x := x) (a := -30000) (b := 30000) h (by omega) (by omega) (by omega) (by omega)
    have h3 := addAt_bd (l := addAt acc p.f.toNat x) (k := p.t.toNat) (x := -x) (a := -30000) (b := 30000) h2 (by omega) (by omega) (by omega) (by omega)
    have := outF_bd ps xs _ (b + 60000) (by omega) (fun z hz => by have := h3 z hz; omega) (fun z hz => hx z (by simp [hz])) y hy
    simp only [List.length_cons]; omega
theorem outL_bd {N : Net} {fl : List Int} (hO : N.Ok) (h : ∀ x ∈ fl, -30000 ≤ x ∧ x ≤ 30000) : ∀ y ∈ outL N fl, -2400000 ≤ y ∧ y ≤ 2400000 := by
  intro y hy
  have := outF_bd N.pipes fl (List.replicate N.nodes.length 0) 0 (by omega) (fun z hz => by have := (List.mem_replicate.1 hz).2; omega) h y hy
  have := hO.p1
  omega
theorem outF_step {acc : List Int} {ps : List Pp} {xs : List Int} {k : Nat} {p : Pp} {x : Int} (hp : ps[k]? = some p) (hx : xs[k]? = some x) : outF acc (ps.drop k) (xs.drop k) = outF (addAt (addAt acc p.f.toNat x) p.t.toNat (-x)) (ps.drop (k + 1)) (xs.drop (k + 1)) := by
  rw [drop_consI hp, drop_consI hx, outF]
theorem outF_end {acc : List Int} {ps : List Pp} {xs : List Int} {k : Nat} (h : ¬ k < ps.length) : outF acc (ps.drop k) (xs.drop k) = acc := by
  rw [drop_endI h]; simp [outF]
def addS (s : Int) (a b : List Int) : List Int := List.zipWith (fun x y => x + s * y) a b
theorem addS_len {s : Int} {a b : List Int} (h : a.length ≤ b.length) : (addS s a b).length = a.length := by simp [addS]; omega
theorem addS_get {s : Int} {a b : List Int} {i : Nat} {x y : Int} (hx : a[i]? = some x) (hy : b[i]? = some y) : (addS s a b)[i]? = some (x + s * y) := by simp only [addS, List.getElem?_zipWith, hx, hy]
theorem addS_bd {s la ha lb hb : Int} {a b : List Int} (hs : s = 1 ∨ s = -1) (h1 : ∀ x ∈ a, la ≤ x ∧ x ≤ ha) (h2 : ∀ x ∈ b, -lb ≤ x ∧ x ≤ lb) (e : hb = lb) : ∀ y ∈ addS s a b, la - lb ≤ y ∧ y ≤ ha + lb := by
  intro y hy
  obtain ⟨i, hi⟩ := List.getElem?_of_mem hy
  simp only [addS, List.getElem?_zipWith] at hi
  cases ha' : a[i]? with
  | none => simp [ha'] at hi
  | some x =>
    cases hb' : b[i]? with
    | none => simp [ha', hb'] at hi
    | some z =>
      simp [ha', hb'] at hi
      have g1 := h1 x (List.mem_of_getElem? ha')
      have g2 := h2 z (List.mem_of_getElem? hb')
      rcases hs with rfl | rfl <;> omega
/-- what the nodes hold after an hour -/
def nextL (N : Net) (now su fl : List Int) : List Int := addS (-1) (addS 1 now su) (outL N fl)
theorem nextL_len {N : Net} {now su fl : List Int} (h1 : now.length = N.nodes.length) (h2 : su.length = N.nodes.length) : (nextL N now su fl).length = N.nodes.length := by
  rw [nextL, addS_len (by rw [addS_len (by omega), outL_len]; omega), addS_len (by omega)]; exact h1
theorem nextL_get {N : Net} {now su fl : List Int} {i : Nat} {a b c : Int} (h1 : now[i]? = some a) (h2 : su[i]? = some b) (h3 : (outL N fl)[i]? = some c) : (nextL N now su fl)[i]? = some (a + (b - c)) := by
  rw [nextL, addS_get (addS_get h1 h2) h3]; congr 1; omega
theorem pipe_ft {N : Net} (hO : N.Ok) {p : Pp} (hp : p ∈ N.pipes) : 0 ≤ p.f ∧ p.f ≤ (N.nodes.length : Int) - 1 ∧ 0 ≤ p.t ∧ p.t ≤ (N.nodes.length : Int) - 1 := by
  have := hO.pipes p hp
  simp only [pipeB, Bool.and_eq_true, inB_iff] at this
  omega
end Go.Proofs.Ytlbidcblpmdgaaa
namespace Go.Proofs.Ytlbidcblpmdgaaa
set_option linter.unusedVariables false
set_option linter.unusedSimpArgs false
open Go.RowKit
theorem cur_get {nx ln : List Int} {k : Nat} {a : Int} (hk : k ≤ nx.length) (h : ln[k]? = some a) : (nx.take k ++ ln.drop k)[k]? = some a := by
  rw [List.getElem?_append_right (by simp; omega)]
  simp only [List.length_take, List.getElem?_drop]
  rw [show k + (k - min k nx.length) = k by omega]; exact h
theorem cur_step {nx ln : List Int} {k : Nat} {b : Int} (hk : k < nx.length) (hl : nx.length = ln.length) (h : nx[k]? = some b) : (nx.take k ++ ln.drop k).set k b = nx.take (k + 1) ++ ln.drop (k + 1) := by
  obtain ⟨h1, rfl⟩ := List.getElem?_eq_some_iff.1 h
  rw [List.set_append_right _ _ (by simp; omega)]
  have e : k - (nx.take k).length = 0 := by simp; omega
  rw [e, List.drop_eq_getElem_cons (show k < ln.length by omega), List.set_cons_zero, List.take_succ_eq_append_getElem h1, List.append_assoc]; rfl
theorem buf_now {n : Nat} {ll lh ln : List Int} (h : BufOk n ll lh ln) : ∀ y ∈ ln, 0 ≤ y ∧ y ≤ 1000000000 := by
  intro y hy
  obtain ⟨i, hi⟩ := List.getElem?_of_mem hy
  have hlt := (List.getElem?_eq_some_iff.1 hi).1
  obtain ⟨a, ha⟩ := get_some (l := ll) (k := i) (by rw [h.l1, ← h.l3]; exact hlt)
  obtain ⟨b, hb⟩ := get_some (l := lh) (k := i) (by rw [h.l2, ← h.l3]; exact hlt)
  have := h.el i a b y ha hb hi
  omega
end Go.Proofs.Ytlbidcblpmdgaaa
namespace Go.Proofs.Ytlbidcblpmdgaaa
set_option linter.unusedVariables false
set_option linter.unusedSimpArgs false
open Go.RowKit
structure HouAt (w : World) (A B : Option Addr) (la lb : List Int) : Prop where
  r1 : Rd w A (la.map iV)
  r2 : Rd w B (lb.map iV)
  s1 : la.length ≤ 1048576
  s2 : lb.length ≤ 1048576
theorem HouAt.below {w w' : World} {A B : Option Addr} {la lb : List Int} (h : HouAt w A B la lb) (hb : Below w.heap.size w w') : HouAt w' A B la lb := ⟨h.r1.below hb, h.r2.below hb, h.s1, h.s2⟩
theorem HouAt.hr {w : World} {A B : Option Addr} {c d : Nat} {la lb : List Int} (h : HouAt w A B la lb) : HrAt w ⟨A, B, c, d, la, lb⟩ := ⟨h.r1, h.r2, h.s1, h.s2⟩
end Go.Proofs.Ytlbidcblpmdgaaa
namespace Go.Proofs.Ytlbidcblpmdgaaa
set_option linter.unusedVariables false
set_option linter.unusedSimpArgs false
open Go.RowKit
theorem some_blk {g g' o o' : Nat} (e : (some ⟨g, o, none⟩ : Option Addr) = some ⟨g', o', none⟩) : g = g' := by injection e with e; injection e
theorem Arr.push' {w : World} {g N : Nat} {xs : List Value} {i : Nat} {v v' : Value} (h : Arr w g N xs) (hi : i = xs.length) (hN : i < N) (e : v = v') : Arr (w.setCell ⟨g, i, none⟩ v) g N (xs ++ [v']) := e ▸ h.push i hi hN v
theorem Arr.any {w : World} {g N : Nat} {xs : List Value} (h : Arr w g N xs) {i : Nat} (hN : i < N) (v : Value) : Arr (w.setCell ⟨g, i, none⟩ v) g N [] := by
  obtain ⟨u, hu⟩ := h.some_ hN
  refine ⟨by rw [show (w.setCell ⟨g, i, none⟩ v).heap.size = w.heap.size by simp [World.setCell]]; exact h.1, fun j hj => ⟨?_, by simp [h.free hj]⟩, fun j x e => by simp at e⟩
  by_cases hji : j = i
  · subst hji; exact ⟨v, World.cell?_setCell_same _ _ _ hu⟩
  · obtain ⟨y, hy⟩ := h.some_ hj
    exact ⟨y, (World.cell?_setCell_other _ _ _ _ (by intro e; injection e; omega)).trans hy⟩
theorem markL_add (k0 : Int) (a n : Nat) : (markL k0 (a + n)).map iV = (markL k0 a).map iV ++ (markL (k0 + a) n).map iV := by
  induction n with
  | zero => simp [markL]
  | succ n ih => rw [← Nat.add_assoc, markL_succ, ih, markL_succ, List.append_assoc]; congr 3; simp; omega

end Go.Proofs.Ytlbidcblpmdgaaa
namespace Go.Proofs.Ytlbidcblpmdgaaa
set_option linter.unusedVariables false
set_option linter.unusedSimpArgs false
open Go.RowKit
theorem onA_lt {base : Nat} {w : World} {A : Option Addr} {N : Nat} {xs : List Value} (h : Wr base w A N xs) {k : Nat} (hk : onA A k) : k < w.heap.size := h.hi k hk
end Go.Proofs.Ytlbidcblpmdgaaa
namespace Go.Proofs.Ytlbidcblpmdgaaa
set_option linter.unusedVariables false
set_option linter.unusedSimpArgs false
open Go.RowKit
/-- no flow is greater than its pipe's limit -/
def limF : List Int → List Pp → Bool
  | x :: xs, p :: ps => !(decide (p.lim < absI x)) && limF xs ps
  | _, _ => true
theorem limF_step {fl : List Int} {ps : List Pp} {k : Nat} {x : Int} {p : Pp} (hx : fl[k]? = some x) (hp : ps[k]? = some p) : limF (fl.drop k) (ps.drop k) = (!(decide (p.lim < absI x)) && limF (fl.drop (k + 1)) (ps.drop (k + 1))) := by
  rw [drop_consI hx, drop_consI hp, limF]
theorem limF_end {fl : List Int} {ps : List Pp} {k : Nat} (h : ¬ k < ps.length) : limF (fl.drop k) (ps.drop k) = true := by
  rw [drop_endI h]
  cases fl.drop k <;> rfl
theorem limF_end' {fl : List Int} {ps : List Pp} {k : Nat} (h : ¬ k < fl.length) : limF (fl.drop k) (ps.drop k) = true := by
  rw [drop_endI h]; simp [limF]
/-- buffers, and whether the hour was possible -/
structure Bfs where
  lo : List Int
  hi : List Int
  nw : List Int
noncomputable def stR (N : Net) (ll lh ln fl su : List Int) : Bfs × Bool :=
  if limF fl N.pipes = false then (⟨[], [], []⟩, false) else (⟨ll, lh, nextL N ln su fl⟩, bufB N.nodes.length ll lh (nextL N ln su fl))
theorem stR_no {N : Net} {ll lh ln fl su : List Int} (h : limF fl N.pipes = false) : stR N ll lh ln fl su = (⟨[], [], []⟩, false) := by simp [stR, h]
theorem stR_yes {N : Net} {ll lh ln fl su : List Int} (h : limF fl N.pipes = true) : stR N ll lh ln fl su = (⟨ll, lh, nextL N ln su fl⟩, bufB N.nodes.length ll lh (nextL N ln su fl)) := by simp [stR, h]
/-- three lists of numbers of the call's own, apart from each other -/
structure BufW (base : Nat) (w : World) (A1 A2 A3 : Option Addr) (l1 l2 l3 : List Int) : Prop where
  r1 : Wr base w A1 l1.length (l1.map iV)
  r2 : Wr base w A2 l2.length (l2.map iV)
  r3 : Wr base w A3 l3.length (l3.map iV)
  d12 : ∀ k, onA A1 k → ¬ onA A2 k
  d13 : ∀ k, onA A1 k → ¬ onA A3 k
  d23 : ∀ k, onA A2 k → ¬ onA A3 k
theorem BufW.below {base : Nat} {w w' : World} {A1 A2 A3 : Option Addr} {l1 l2 l3 : List Int} (h : BufW base w A1 A2 A3 l1 l2 l3) (hb : Below w.heap.size w w') : BufW base w' A1 A2 A3 l1 l2 l3 :=
  ⟨h.r1.below hb, h.r2.below hb, h.r3.below hb, h.d12, h.d13, h.d23⟩
theorem BufW.lower {base base' : Nat} {w : World} {A1 A2 A3 : Option Addr} {l1 l2 l3 : List Int} (h : BufW base w A1 A2 A3 l1 l2 l3) (hb : base' ≤ base) : BufW base' w A1 A2 A3 l1 l2 l3 :=
  ⟨h.r1.lower hb, h.r2.lower hb, h.r3.lower hb, h.d12, h.d13, h.d23⟩
theorem BufW.nil (base : Nat) (w : World) : BufW base w none none none [] [] [] :=
  ⟨Wr.nil base w, Wr.nil base w, Wr.nil base w, fun k h => by simp [onA_none] at h, fun k h => by simp [onA_none] at h, fun k h => by simp [onA_none] at h⟩
theorem BufW.at_ {base : Nat} {w : World} {A1 A2 A3 : Option Addr} {l1 l2 l3 : List Int} (h : BufW base w A1 A2 A3 l1 l2 l3) (s1 : l1.length ≤ 1048576) (s2 : l2.length ≤ 1048576) (s3 : l3.length ≤ 1048576) : BufAt w A1 A2 A3 l1 l2 l3 := by
  constructor <;> first | exact h.r1.rd | exact h.r2.rd | exact h.r3.rd | assumption
/-- what a call that makes buffers hands back -/
def MadeB (w : World) (x : Bfs) (ok : Bool) (e : Ending) (w' : World) : Prop :=
  ∃ A1 A2 A3 c1 c2 c3, e = .returned (.tuple #[.agg #[.slice A1 x.lo.length c1, .slice A2 x.hi.length c2, .slice A3 x.nw.length c3], .bool ok]) ∧ BufW w.heap.size w' A1 A2 A3 x.lo x.hi x.nw ∧ Below w.heap.size w w'
theorem onA_apart {base : Nat} {w w1 : World} {A B : Option Addr} {N M : Nat} {xs ys : List Value} (h : Wr base w A N xs) (h' : Wr w1.heap.size w1 B M ys) : True := trivial
theorem Wr.apart {base : Nat} {w w1 w2 : World} {A B : Option Addr} {N M : Nat} {xs ys : List Value} (h : Wr base w A N xs) (h' : Wr w1.heap.size w2 B M ys) (hs : w.heap.size ≤ w1.heap.size) : ∀ k, onA A k → ¬ onA B k := fun k h1 h2 => by
  have := h.hi k h1
  have := h'.lo k h2
  omega
end Go.Proofs.Ytlbidcblpmdgaaa
namespace Go.Proofs.Ytlbidcblpmdgaaa
set_option linter.unusedVariables false
set_option linter.unusedSimpArgs false
open Go.RowKit
structure Rz where
  a : Nat → Option Addr
  c : Nat → Nat
  b : Nat
def Rz.zero : Rz := ⟨fun _ => none, fun _ => 0, 0⟩
def Rz.list (ρ : Rz) (j : Nat) (A : Option Addr) (c : Nat) : Rz := ⟨fun k => if k = j then A else ρ.a k, fun k => if k = j then c else ρ.c k, ρ.b⟩
def Rz.box (ρ : Rz) (g : Nat) : Rz := ⟨ρ.a, ρ.c, g⟩
/-- M: operation, label and content of the lists made; kb makes the box of zero values z, ks fills it with cs -/
structure WB (w0 : World) (M : List (Nat × Nat × List Int)) (kb ks : Nat) (z : List Value) (cs : Rz → List Value) (L : Nat → Bool) (ρ : Rz) (w : World) : Prop where
  bl : Below w0.heap.size w0 w
  md : ∀ i j l, (i, j, l) ∈ M → L i = true → Wr w0.heap.size w (ρ.a j) l.length (l.map iV)
  ds : ∀ i j l i' j' l', (i, j, l) ∈ M → (i', j', l') ∈ M → L i = true → L i' = true → j ≠ j' → ∀ q, onA (ρ.a j) q → ¬ onA (ρ.a j') q
  b0 : L kb = true → w0.heap.size ≤ ρ.b ∧ ρ.b < w.heap.size ∧ ∀ i j l, (i, j, l) ∈ M → L i = true → ¬ onA (ρ.a j) ρ.b
  b1 : L kb = true → L ks = false → Bx w ρ.b z
  b2 : L ks = true → Bx w ρ.b (cs ρ)
section
variable {w0 w w' : World} {M : List (Nat × Nat × List Int)} {kb ks : Nat} {z : List Value} {cs : Rz → List Value} {L : Nat → Bool} {ρ : Rz}
theorem WB.start (h : Below w0.heap.size w0 w) : WB w0 M kb ks z cs (fun _ => false) ρ w :=
  ⟨h, (fun _ _ _ _ e => by cases e), (fun _ _ _ _ _ _ _ _ e => by cases e), (fun e => by cases e), (fun e => by cases e), (fun e => by cases e)⟩
theorem WB.notin {i j : Nat} {l : List Int} (h : (M.map (·.1)).contains i = false) (hm : (i, j, l) ∈ M) : False := by
  have : (M.map (·.1)).contains i = true := by
    rw [List.contains_iff_mem]; exact List.mem_map.2 ⟨_, hm, rfl⟩
  rw [h] at this; cases this
/-- an operation that makes nothing that is told of -/
theorem WB.below (h : WB w0 M kb ks z cs L ρ w) {i : Nat} (h1 : (M.map (·.1)).contains i = false) (h2 : kb ≠ i) (h3 : ks ≠ i) (hb : Below w.heap.size w w') : WB w0 M kb ks z cs (upd L i) ρ w' := by
  refine ⟨h.bl.trans (hb.mono h.bl.size), fun i' j l hm hj => ?_, fun i1 j1 l1 i2 j2 l2 m1 m2 e1 e2 => ?_, ?_, ?_, ?_⟩
  · rcases upd_cases hj with hj | rfl
    · exact (h.md i' j l hm hj).below hb
    · exact (WB.notin h1 hm).elim
  · rcases upd_cases e1 with e1 | rfl
    · rcases upd_cases e2 with e2 | rfl
      · exact h.ds _ _ _ _ _ _ m1 m2 e1 e2
      · exact (WB.notin h1 m2).elim
    · exact (WB.notin h1 m1).elim
  · rw [upd_ne h2]; intro e
    obtain ⟨p, q, r⟩ := h.b0 e
    refine ⟨p, by have := hb.size; omega, fun i' j l hm hj => ?_⟩
    rcases upd_cases hj with hj | rfl
    · exact r _ _ _ hm hj
    · exact (WB.notin h1 hm).elim
  · rw [upd_ne h2, upd_ne h3]; intro e e'; exact (h.b1 e e').below hb (h.b0 e).2.1
  · rw [upd_ne h3]; intro e
    have := h.b2 e
    exact this.below hb this.lt
theorem WB.pure (h : WB w0 M kb ks z cs L ρ w) {i : Nat} (h1 : (M.map (·.1)).contains i = false) (h2 : kb ≠ i) (h3 : ks ≠ i) : WB w0 M kb ks z cs (upd L i) ρ w := h.below h1 h2 h3 (Below.refl _ _)
/-- the same where the record tells of an address that is in no list -/
theorem WB.other (h : WB w0 M kb ks z cs L ρ w) {ρ' : Rz} (ha : ∀ i j l, (i, j, l) ∈ M → ρ'.a j = ρ.a j) (hb : ρ'.b = ρ.b) (hc : cs ρ' = cs ρ) : WB w0 M kb ks z cs L ρ' w := by
  refine ⟨h.bl, fun i j l hm e => by rw [ha i j l hm]; exact h.md i j l hm e, fun i1 j1 l1 i2 j2 l2 m1 m2 e1 e2 => by rw [ha _ _ _ m1, ha _ _ _ m2]; exact h.ds _ _ _ _ _ _ m1 m2 e1 e2, fun e => ?_, fun e e' => by rw [hb]; exact h.b1 e e', fun e => by rw [hb, hc]; exact h.b2 e⟩
  rw [hb]
  obtain ⟨p, q, r⟩ := h.b0 e
  exact ⟨p, q, fun i j l hm e => by rw [ha i j l hm]; exact r i j l hm e⟩
/-- operation i makes lists -/
theorem WB.make (h : WB w0 M kb ks z cs L ρ w) {i : Nat} {ρ' : Rz} (h2 : kb ≠ i) (h3 : ks ≠ i) (hks : L ks = false) (hb : Below w.heap.size w w') (hρ : ρ'.b = ρ.b)
    (ho : ∀ i' j l, (i', j, l) ∈ M → i' ≠ i → ρ'.a j = ρ.a j) (hw : ∀ j l, (i, j, l) ∈ M → Wr w.heap.size w' (ρ'.a j) l.length (l.map iV)) (hd : ∀ j l j' l', (i, j, l) ∈ M → (i, j', l') ∈ M → j ≠ j' → ∀ q, onA (ρ'.a j) q → ¬ onA (ρ'.a j') q) :
    WB w0 M kb ks z cs (upd L i) ρ' w' := by
  have hz := h.bl.size
  refine ⟨h.bl.trans (hb.mono h.bl.size), fun i' j l hm hj => ?_, fun i1 j1 l1 i2 j2 l2 m1 m2 e1 e2 hne q q1 q2 => ?_, ?_, ?_, ?_⟩
  · by_cases hi : i' = i
    · subst hi; exact (hw j l hm).lower hz
    · rw [upd_ne hi] at hj
      rw [ho _ _ _ hm hi]; exact (h.md i' j l hm hj).below hb
  · by_cases h5 : i1 = i
    · subst h5
      by_cases h6 : i2 = i1
      · subst h6; exact hd _ _ _ _ m1 m2 hne q q1 q2
      · rw [upd_ne h6] at e2
        rw [ho _ _ _ m2 h6] at q2
        have a := (hw _ _ m1).lo q q1
        have b := (h.md _ _ _ m2 e2).hi q q2
        omega
    · rw [upd_ne h5] at e1
      rw [ho _ _ _ m1 h5] at q1
      by_cases h6 : i2 = i
      · subst h6
        have a := (hw _ _ m2).lo q q2
        have b := (h.md _ _ _ m1 e1).hi q q1
        omega
      · rw [upd_ne h6] at e2
        rw [ho _ _ _ m2 h6] at q2
        exact h.ds _ _ _ _ _ _ m1 m2 e1 e2 hne q q1 q2
  · rw [upd_ne h2]; intro e
    obtain ⟨p, q, r⟩ := h.b0 e
    rw [hρ]
    refine ⟨p, by have := hb.size; omega, fun i' j l hm hj hq => ?_⟩
    by_cases hi : i' = i
    · subst hi
      have := (hw _ _ hm).lo _ hq
      omega
    · rw [upd_ne hi] at hj
      rw [ho _ _ _ hm hi] at hq
      exact r _ _ _ hm hj hq
  · rw [upd_ne h2, upd_ne h3, hρ]; intro e e'; exact (h.b1 e e').below hb (h.b0 e).2.1
  · rw [upd_ne h3, hks]; intro e; cases e
/-- operation i makes one list, of label j -/
theorem WB.one (h : WB w0 M kb ks z cs L ρ w) {i j c : Nat} {A : Option Addr} {l : List Int} (h2 : kb ≠ i) (h3 : ks ≠ i) (hks : L ks = false) (hb : Below w.heap.size w w') (hw : Wr w.heap.size w' A l.length (l.map iV))
    (ho : ∀ i' j' l', (i', j', l') ∈ M → i' ≠ i → j' ≠ j) (hl : ∀ j' l', (i, j', l') ∈ M → j' = j ∧ l' = l) : WB w0 M kb ks z cs (upd L i) (ρ.list j A c) w' :=
  h.make h2 h3 hks hb rfl (fun i' j' l' hm hi => by simp [Rz.list, ho i' j' l' hm hi]) (fun j' l' hm => by obtain ⟨rfl, rfl⟩ := hl _ _ hm; simpa [Rz.list] using hw)
    (fun j1 l1 j2 l2 m1 m2 hne => absurd ((hl _ _ m1).1.trans (hl _ _ m2).1.symm) hne)
/-- operation i makes an empty list, of a label that is in no list -/
theorem WB.empty (h : WB w0 M kb ks z cs L ρ w) {i j c : Nat} {A : Option Addr} (h1 : (M.map (·.1)).contains i = false) (h2 : kb ≠ i) (h3 : ks ≠ i) (hj : (M.map (·.2.1)).contains j = false) (hc : cs (ρ.list j A c) = cs ρ) (hb : Below w.heap.size w w') : WB w0 M kb ks z cs (upd L i) (ρ.list j A c) w' :=
  (h.below h1 h2 h3 hb).other (fun i' j' l' hm => by
    have hne : j' ≠ j := by
      rintro rfl
      have : (M.map (·.2.1)).contains j' = true := by
        rw [List.contains_iff_mem]; exact List.mem_map.2 ⟨_, hm, rfl⟩
      rw [hj] at this; cases this
    simp [Rz.list, hne]) rfl hc
/-- operation i makes three lists, labels 0 to 2 -/
theorem WB.three {i c1 c2 c3 : Nat} {l0 l1 l2 : List Int} {A1 A2 A3 : Option Addr} (h : WB w0 [(i, 0, l0), (i, 1, l1), (i, 2, l2)] kb ks z cs L ρ w) (h2 : kb ≠ i) (h3 : ks ≠ i) (hks : L ks = false) (hb : Below w.heap.size w w') (hw : BufW w.heap.size w' A1 A2 A3 l0 l1 l2) :
    WB w0 [(i, 0, l0), (i, 1, l1), (i, 2, l2)] kb ks z cs (upd L i) (((ρ.list 0 A1 c1).list 1 A2 c2).list 2 A3 c3) w' := by
  refine h.make h2 h3 hks hb rfl (fun i' j l hm hi => ?_) (fun j l hm => ?_) (fun j l j' l' m1 m2 hne => ?_)
  · simp at hm; rcases hm with ⟨rfl, -⟩ | ⟨rfl, -⟩ | ⟨rfl, -⟩ <;> exact absurd rfl hi
  · simp at hm
    rcases hm with ⟨rfl, rfl⟩ | ⟨rfl, rfl⟩ | ⟨rfl, rfl⟩
    · exact hw.r1
    · exact hw.r2
    · exact hw.r3
  · simp at m1 m2
    rcases m1 with ⟨rfl, rfl⟩ | ⟨rfl, rfl⟩ | ⟨rfl, rfl⟩ <;> rcases m2 with ⟨rfl, rfl⟩ | ⟨rfl, rfl⟩ | ⟨rfl, rfl⟩
    · exact absurd rfl hne
    · exact hw.d12
    · exact hw.d13
    · exact fun q a b => hw.d12 q b a
    · exact absurd rfl hne
    · exact hw.d23
    · exact fun q a b => hw.d13 q b a
    · exact fun q a b => hw.d23 q b a
    · exact absurd rfl hne
/-- the box is made -/
theorem WB.boxed (h : WB w0 M kb ks z cs L ρ w) (h1 : (M.map (·.1)).contains kb = false) (h3 : ks ≠ kb) (hks : L ks = false) (hb : Below w.heap.size w w') (hx : Bx w' w.heap.size z) : WB w0 M kb ks z cs (upd L kb) (ρ.box w.heap.size) w' := by
  have hz := h.bl.size
  refine ⟨h.bl.trans (hb.mono h.bl.size), fun i' j l hm hj => ?_, fun i1 j1 l1 i2 j2 l2 m1 m2 e1 e2 => ?_, fun _ => ⟨hz, hx.lt, fun i j l hm hj hq => ?_⟩, fun _ _ => hx, ?_⟩
  · rcases upd_cases hj with hj | rfl
    · exact (h.md i' j l hm hj).below hb
    · exact (WB.notin h1 hm).elim
  · rcases upd_cases e1 with e1 | rfl
    · rcases upd_cases e2 with e2 | rfl
      · exact h.ds _ _ _ _ _ _ m1 m2 e1 e2
      · exact (WB.notin h1 m2).elim
    · exact (WB.notin h1 m1).elim
  · rcases upd_cases hj with hj | rfl
    · have : w.heap.size < w.heap.size := (h.md _ _ _ hm hj).hi _ hq
      omega
    · exact (WB.notin h1 hm).elim
  · rw [upd_ne h3, hks]; intro e; cases e
/-- the box is filled -/
theorem WB.store (h : WB w0 M kb ks z cs L ρ w) (h1 : (M.map (·.1)).contains ks = false) (h3 : kb ≠ ks) (hL : L kb = true) (hk : Keep (· = ρ.b) w w') (hx : Bx w' ρ.b (cs ρ)) : WB w0 M kb ks z cs (upd L ks) ρ w' := by
  obtain ⟨p, q, r⟩ := h.b0 hL
  refine ⟨hk.below h.bl h.bl.size (fun k e => by subst e; exact p), fun i' j l hm hj => ?_, fun i1 j1 l1 i2 j2 l2 m1 m2 e1 e2 => ?_, fun _ => ⟨p, hx.lt, fun i j l hm hj => ?_⟩, (fun _ => by rw [upd_self]; intro e; cases e), fun _ => hx⟩
  · rcases upd_cases hj with hj | rfl
    · exact (h.md i' j l hm hj).keep hk (fun k hk' e => r _ _ _ hm hj (e ▸ hk'))
    · exact (WB.notin h1 hm).elim
  · rcases upd_cases e1 with e1 | rfl
    · rcases upd_cases e2 with e2 | rfl
      · exact h.ds _ _ _ _ _ _ m1 m2 e1 e2
      · exact (WB.notin h1 m2).elim
    · exact (WB.notin h1 m1).elim
  · rcases upd_cases hj with hj | rfl
    · exact r _ _ _ hm hj
    · exact (WB.notin h1 hm).elim
end
theorem keep3 {w : World} {b : Nat} (v0 v1 v2 : Value) : Keep (· = b) w (((w.setCell ⟨b, 0, none⟩ v0).setCell ⟨b, 1, none⟩ v1).setCell ⟨b, 2, none⟩ v2) :=
  (((Keep.refl (· = b) w).setCell rfl v0).setCell rfl v1).setCell rfl v2
theorem bx_fill3 {w : World} {b : Nat} {z0 z1 z2 : Value} (h : Bx w b [z0, z1, z2]) (v0 v1 v2 : Value) : Bx (((w.setCell ⟨b, 0, none⟩ v0).setCell ⟨b, 1, none⟩ v1).setCell ⟨b, 2, none⟩ v2) b [v0, v1, v2] := by
  have hy := h.lt
  have c0 := h.cell 0 rfl
  have c1 := h.cell 1 rfl
  have c2 := h.cell 2 rfl
  have f0 := h.frozen 0 rfl
  have f1 := h.frozen 1 rfl
  have f2 := h.frozen 2 rfl
  refine bx3 (by simpa [World.setCell] using hy) ?_ ?_ ?_ ?_ ?_ ?_ <;> simp [go_sem, c0, c1, c2, f0, f1, f2, hy]
end Go.Proofs.Ytlbidcblpmdgaaa
