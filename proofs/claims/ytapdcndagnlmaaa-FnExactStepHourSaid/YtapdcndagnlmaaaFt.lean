/- FirstTrouble. -/
import Derived.Test.YtapdcndagnlmaaaCa
namespace Go.Proofs.Ytapdcndagnlmaaa
set_option linter.unusedVariables false
set_option linter.unusedSimpArgs false
open Go.RowKit
def trB (nx ll lh : List Int) (k : Nat) : Bool := match nx[k]?, ll[k]?, lh[k]? with
  | some a, some l, some h => inB a l h
  | _, _, _ => true
def ftF (f : Nat → Bool) : Nat → Nat → Int
  | _, 0 => -1
  | k, m + 1 => if f k = false then (k : Int) else ftF f (k + 1) m
noncomputable def ftR (N : Net) (ll lh ln : List Int) (x : Hr) : Int × Int :=
  if hrC N ll lh ln x ≠ 0 then (0, hrC N ll lh ln x) else (ftF (trB (nextL N ln x.su x.fl) ll lh) 0 N.nodes.length, 0)
theorem trB_get {nx ll lh : List Int} {k : Nat} {a l h : Int} (h1 : nx[k]? = some a) (h2 : ll[k]? = some l) (h3 : lh[k]? = some h) : trB nx ll lh k = inB a l h := by simp [trB, h1, h2, h3]
theorem Rd.two {w : World} {t : TypeId} {a b : Value} {g : Nat} (hg : g = w.heap.size) : Rd (w.alloc (.cells #[a, b] t)) (some ⟨g, 0, none⟩) [a, b] := by
  subst hg
  refine Rd.mk (fun j v e => ?_) (by simp)
  rw [Nat.zero_add]
  have : (w.alloc (.cells #[a, b] t)).cell? ⟨w.heap.size, j, none⟩ = (#[a, b])[j]? := by simp
  rw [this]; simpa using e
def idxL (n : Nat) : List Int := (List.range n).map fun i : Nat => (i : Int)
theorem idxL_len (n : Nat) : (idxL n).length = n := by simp [idxL]
theorem idxL_get {n k : Nat} (h : k < n) : (idxL n)[k]? = some (k : Int) := by simp [idxL, h]
theorem idxL_succ (k : Nat) : idxL (k + 1) = idxL k ++ [(k : Int)] := by simp [idxL, List.range_succ]
structure FtBox (w : World) (A B Al Ah An : Option Addr) (n c m d nl nh nn cl ch cn bn bb bh : Nat) (x : Hr) : Prop where
  n0 : w.cell? ⟨bn, 0, none⟩ = some (.slice A n c)
  n1 : w.cell? ⟨bn, 1, none⟩ = some (.slice B m d)
  b0 : w.cell? ⟨bb, 0, none⟩ = some (.slice Al nl cl)
  b1 : w.cell? ⟨bb, 1, none⟩ = some (.slice Ah nh ch)
  b2 : w.cell? ⟨bb, 2, none⟩ = some (.slice An nn cn)
  h0 : w.cell? ⟨bh, 0, none⟩ = some (.slice x.A x.fl.length x.c)
  h1 : w.cell? ⟨bh, 1, none⟩ = some (.slice x.B x.su.length x.d)
  ln : bn < w.heap.size
  lb : bb < w.heap.size
  lh : bh < w.heap.size
theorem FtBox.below {w w' : World} {A B Al Ah An : Option Addr} {n c m d nl nh nn cl ch cn bn bb bh : Nat} {x : Hr} (h : FtBox w A B Al Ah An n c m d nl nh nn cl ch cn bn bb bh x) (hb : Below w.heap.size w w') : FtBox w' A B Al Ah An n c m d nl nh nn cl ch cn bn bb bh x :=
  ⟨bc hb h.ln h.n0, bc hb h.ln h.n1, bc hb h.lb h.b0, bc hb h.lb h.b1, bc hb h.lb h.b2, bc hb h.lh h.h0, bc hb h.lh h.h1, by have := hb.size; have := h.ln; omega, by have := hb.size; have := h.lb; omega, by have := hb.size; have := h.lh; omega⟩
end Go.Proofs.Ytapdcndagnlmaaa
