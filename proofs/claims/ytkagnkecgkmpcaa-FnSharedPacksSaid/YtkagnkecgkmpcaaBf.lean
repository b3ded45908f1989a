/- Buffers: their checks and codes. -/
import Derived.Test.YtkagnkecgkmpcaaNt4
import Derived.Test.YtkagnkecgkmpcaaSu
namespace Go.Proofs.Ytkagnkecgkmpcaa
set_option linter.unusedVariables false
set_option linter.unusedSimpArgs false
open Go.RowKit

abbrev bufV (Al Ah An : Option Addr) (nl nh nn cl ch cn : Nat) : Value := .agg #[.slice Al nl cl, .slice Ah nh ch, .slice An nn cn]
structure BufOk (n : Nat) (ll lh ln : List Int) : Prop where
  l1 : ll.length = n
  l2 : lh.length = n
  l3 : ln.length = n
  el : ∀ (i : Nat) (a b c : Int), ll[i]? = some a → lh[i]? = some b → ln[i]? = some c → 0 ≤ a ∧ a ≤ c ∧ c ≤ b ∧ b ≤ 1000000000
open Classical in
noncomputable def bufB (n : Nat) (ll lh ln : List Int) : Bool := decide (BufOk n ll lh ln)
theorem bufB_t {n : Nat} {ll lh ln : List Int} (h : BufOk n ll lh ln) : bufB n ll lh ln = true := by simp [bufB, h]
theorem bufB_f {n : Nat} {ll lh ln : List Int} (h : ¬ BufOk n ll lh ln) : bufB n ll lh ln = false := by simp [bufB, h]
theorem bufB_ok {n : Nat} {ll lh ln : List Int} (h : bufB n ll lh ln = true) : BufOk n ll lh ln := by simpa [bufB] using h
structure BufAt (w : World) (Al Ah An : Option Addr) (ll lh ln : List Int) : Prop where
  r1 : Rd w Al (ll.map iV)
  r2 : Rd w Ah (lh.map iV)
  r3 : Rd w An (ln.map iV)
  s1 : ll.length ≤ 1048576
  s2 : lh.length ≤ 1048576
  s3 : ln.length ≤ 1048576
theorem BufAt.below {w w' : World} {Al Ah An : Option Addr} {ll lh ln : List Int} (h : BufAt w Al Ah An ll lh ln) (hb : Below w.heap.size w w') : BufAt w' Al Ah An ll lh ln :=
  ⟨h.r1.below hb, h.r2.below hb, h.r3.below hb, h.s1, h.s2, h.s3⟩



noncomputable def bufC (N : Net) (ll lh ln : List Int) : Int := if netB N = false then 1 else if bufB N.nodes.length ll lh ln = false then 3 else 0
theorem bufC_of {N : Net} {ll lh ln : List Int} (h : bufC N ll lh ln = 0) : N.Ok ∧ BufOk N.nodes.length ll lh ln := by
  unfold bufC at h
  by_cases h1 : netB N = false
  · simp [h1] at h
  · by_cases h2 : bufB N.nodes.length ll lh ln = false
    · simp [h1, h2] at h
    · exact ⟨netB_ok (by simpa using h1), bufB_ok (by simpa using h2)⟩





end Go.Proofs.Ytkagnkecgkmpcaa
