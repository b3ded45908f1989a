/- RunHours: the plain part. -/
import Derived.Test.YtijhadafmhbceaaSdl
namespace Go.Proofs.Ytijhadafmhbceaa
set_option linter.unusedVariables false
set_option linter.unusedSimpArgs false
open Go.RowKit
/-- an hour's two lists -/
abbrev Hr.q (x : Hr) : List Int × List Int := (x.fl, x.su)
def qB (m n : Nat) (x : List Int × List Int) : Bool := listB m x.1 && supB n x.2
def qsB (m n : Nat) (l : List (List Int × List Int)) : Bool := l.all (qB m n)
theorem qsB_hrs (m n : Nat) : ∀ l : List Hr, qsB m n (l.map Hr.q) = hrsF m n l
  | [] => rfl
  | x :: l => by
    have ih := qsB_hrs m n l
    simp only [qsB] at ih
    simp only [qsB, List.map_cons, List.all_cons, hrsF, ih]; rfl
/-- the buffers behind the hours that are possible, and their number -/
noncomputable def rhGo (N : Net) : List (List Int × List Int) → Nat → Bfs → Bfs × Nat
  | [], k, b => (b, k)
  | x :: l, k, b => if (stR N b.lo b.hi b.nw x.1 x.2).2 = false then (b, k) else rhGo N l (k + 1) (stR N b.lo b.hi b.nw x.1 x.2).1
noncomputable def rhC (N : Net) (ll lh ln : List Int) (l : List (List Int × List Int)) : Int :=
  if bufC N ll lh ln ≠ 0 then bufC N ll lh ln else if 48 < l.length then 5 else if qsB N.pipes.length N.nodes.length l = false then 2 else 0
noncomputable def rhR (N : Net) (ll lh ln : List Int) (l : List (List Int × List Int)) : Bfs × Int × Int :=
  if rhC N ll lh ln l = 0 then ((rhGo N l 0 ⟨ll, lh, ln⟩).1, (rhGo N l 0 ⟨ll, lh, ln⟩).2, 0) else (⟨[], [], []⟩, 0, rhC N ll lh ln l)
theorem rhR_code {N : Net} {ll lh ln : List Int} {l : List (List Int × List Int)} {k : Int} (h : rhC N ll lh ln l = k) (hk : k ≠ 0) : rhR N ll lh ln l = (⟨[], [], []⟩, 0, k) := by
  unfold rhR; rw [if_neg (by rw [h]; exact hk), h]
theorem rhR_zero {N : Net} {ll lh ln : List Int} {l : List (List Int × List Int)} (h : rhC N ll lh ln l = 0) : rhR N ll lh ln l = ((rhGo N l 0 ⟨ll, lh, ln⟩).1, ((rhGo N l 0 ⟨ll, lh, ln⟩).2 : Int), 0) := by
  unfold rhR; rw [if_pos h]
theorem rhC_1 {N : Net} {ll lh ln : List Int} {l : List (List Int × List Int)} (h : bufC N ll lh ln ≠ 0) : rhC N ll lh ln l = bufC N ll lh ln := by unfold rhC; rw [if_pos h]
theorem rhC_5 {N : Net} {ll lh ln : List Int} {l : List (List Int × List Int)} (h : bufC N ll lh ln = 0) (h48 : 48 < l.length) : rhC N ll lh ln l = 5 := by unfold rhC; rw [if_neg (by simp [h]), if_pos h48]
theorem rhC_q {N : Net} {ll lh ln : List Int} {l : List (List Int × List Int)} (h : bufC N ll lh ln = 0) (h48 : ¬ 48 < l.length) : rhC N ll lh ln l = if qsB N.pipes.length N.nodes.length l = false then 2 else 0 := by unfold rhC; rw [if_neg (by simp [h]), if_neg h48]
theorem rhGo_no {N : Net} {l : List (List Int × List Int)} {k : Nat} {b : Bfs} {x : List Int × List Int} (hx : l[k]? = some x) (h : (stR N b.lo b.hi b.nw x.1 x.2).2 = false) : rhGo N (l.drop k) k b = (b, k) := by
  rw [drop_consI hx, rhGo, if_pos h]
theorem rhGo_yes {N : Net} {l : List (List Int × List Int)} {k : Nat} {b : Bfs} {x : List Int × List Int} (hx : l[k]? = some x) (h : (stR N b.lo b.hi b.nw x.1 x.2).2 = true) : rhGo N (l.drop k) k b = rhGo N (l.drop (k + 1)) (k + 1) (stR N b.lo b.hi b.nw x.1 x.2).1 := by
  rw [drop_consI hx, rhGo, h, if_neg (by simp)]
theorem rhGo_end {N : Net} {l : List (List Int × List Int)} {k : Nat} {b : Bfs} (h : ¬ k < l.length) : rhGo N (l.drop k) k b = (b, k) := by
  rw [drop_endI h, rhGo]
theorem q_at {l : List Hr} {k : Nat} {x : Hr} (h : l[k]? = some x) : (l.map Hr.q)[k]? = some (x.fl, x.su) := by rw [List.getElem?_map, h]; rfl
theorem hrsF_at {m n : Nat} {l : List Hr} {k : Nat} {x : Hr} (h : hrsF m n l = true) (hx : l[k]? = some x) : hrB m n x = true := hrsF_all.1 h x (List.mem_of_getElem? hx)
/-- buffers, a number and a code that a call makes -/
def MadeBII (w : World) (x : Bfs) (k code : Int) (e : Ending) (w' : World) : Prop :=
  ∃ A1 A2 A3 c1 c2 c3, e = .returned (.tuple #[.agg #[.slice A1 x.lo.length c1, .slice A2 x.hi.length c2, .slice A3 x.nw.length c3], .int .i64 k, .int .i64 code]) ∧ BufW w.heap.size w' A1 A2 A3 x.lo x.hi x.nw ∧ Below w.heap.size w w'
/-- what goes around the loops of RunHours: the buffers of the call's own in box P -/
structure RhI (base : Nat) (P : Nat) (N : Net) (l : List (List Int × List Int)) (tot : Bfs × Nat) (k : Nat) (b : Bfs) (A1 A2 A3 : Option Addr) (c1 c2 c3 : Nat) (wr : World) : Prop where
  le : k ≤ l.length
  go : rhGo N (l.drop k) k b = tot
  at_ : BufW base wr A1 A2 A3 b.lo b.hi b.nw
  ok : BufOk N.nodes.length b.lo b.hi b.nw
  off : Off P A1 A2 A3
  bx : Bx wr P [.slice A1 b.lo.length c1, .slice A2 b.hi.length c2, .slice A3 b.nw.length c3]
theorem rhGo_len {N : Net} {n : Nat} : ∀ {l : List (List Int × List Int)} {k : Nat} {b : Bfs}, N.nodes.length = n → BufOk n b.lo b.hi b.nw → BufOk n (rhGo N l k b).1.lo (rhGo N l k b).1.hi (rhGo N l k b).1.nw
  | [], k, b, e, h => h
  | x :: l, k, b, e, h => by
    rw [rhGo]
    cases hs : (stR N b.lo b.hi b.nw x.1 x.2).2
    · rw [if_pos rfl]; exact h
    · rw [if_neg (by simp)]
      have := stR_ok hs
      rw [e] at this
      exact rhGo_len e this
theorem rhC_of {N : Net} {ll lh ln : List Int} {l : List (List Int × List Int)} (h : rhC N ll lh ln l = 0) : bufC N ll lh ln = 0 ∧ l.length ≤ 48 ∧ qsB N.pipes.length N.nodes.length l = true := by
  unfold rhC at h
  by_cases h0 : bufC N ll lh ln = 0
  · rw [if_neg (by simp [h0])] at h
    by_cases h1 : 48 < l.length
    · rw [if_pos h1] at h; cases h
    · rw [if_neg h1] at h
      cases h2 : qsB N.pipes.length N.nodes.length l
      · rw [if_pos h2] at h; cases h
      · exact ⟨h0, by omega, rfl⟩
  · rw [if_pos h0] at h; exact absurd h h0
theorem rhR_len (N : Net) (ll lh ln : List Int) (l : List (List Int × List Int)) : (rhR N ll lh ln l).1.lo.length ≤ 24 ∧ (rhR N ll lh ln l).1.hi.length ≤ 24 ∧ (rhR N ll lh ln l).1.nw.length ≤ 24 := by
  unfold rhR
  split
  · rename_i h
    have hb := bufC_of (rhC_of h).1
    have hk := rhGo_len (l := l) (k := 0) (b := ⟨ll, lh, ln⟩) rfl hb.2
    have h24 := hb.1.n2
    have h1 := hk.l1
    have h2 := hk.l2
    have h3 := hk.l3
    dsimp only
    omega
  · simp
end Go.Proofs.Ytijhadafmhbceaa
