/- The bounds of the linepack. -/
import Derived.Test.YtlkkhdbfccejjaaLv
import Derived.Test.YtlkkhdbfccejjaaAp2
import Derived.Deep.RegionHeld3
namespace Go.Proofs.Ytlkkhdbfccejjaa
set_option linter.unusedVariables false
set_option linter.unusedSimpArgs false
open Go.RowKit
noncomputable def bndR (N : Net) : Int × Int × Int := if netB N = false then (0, 0, 1) else (lineF (N.nodes.map Nd.lo) N.pipes, lineF (N.nodes.map Nd.hi) N.pipes, 0)
theorem node_lh {N : Net} (h : N.Ok) {x : Nd} (hx : x ∈ N.nodes) : 0 ≤ x.lo ∧ x.lo ≤ x.hi ∧ x.hi ≤ 100000000 := by
  obtain ⟨i, hi⟩ := List.getElem?_of_mem hx
  obtain ⟨hlt, e⟩ := List.getElem?_eq_some_iff.1 hi
  have := h.nodes i hlt x hi
  have h1 := this.1
  simp [nodeB] at h1
  omega
theorem lv_lo {N : Net} (h : N.Ok) : LvOk (N.nodes.map Nd.lo) N.nodes.length := ⟨by simp, fun y hy => by
  obtain ⟨x, hx, rfl⟩ := List.mem_map.1 hy
  have := node_lh h hx; omega⟩
theorem lv_hi {N : Net} (h : N.Ok) : LvOk (N.nodes.map Nd.hi) N.nodes.length := ⟨by simp, fun y hy => by
  obtain ⟨x, hx, rfl⟩ := List.mem_map.1 hy
  have := node_lh h hx; omega⟩
theorem ri3' {a b c : Int} {p : Int × Int × Int} (h : p = (a, b, c)) : Ending.returned (.tuple #[.int .i64 a, .int .i64 b, .int .i64 c]) = .returned (.tuple #[.int .i64 p.1, .int .i64 p.2.1, .int .i64 p.2.2]) := by rw [h]
theorem spec_l18Total' (A B C : Option Addr) (n c m d e nl : Nat) (N : Net) (lv : List Int) (w : World) (hN : NetAt w A B N) (hn : n = N.nodes.length) (hm : m = N.pipes.length) (hO : N.Ok) (hv : LvOk lv N.nodes.length) (h : Rd w C (lv.map iV)) (hl : nl = N.nodes.length) :
    Calls Try.prog 90 #[netV A B n c m d, .slice C nl e] w fun e w' => e = .returned (.int .i64 (lineF lv N.pipes)) ∧ Below w.heap.size w w' := by
  obtain rfl : nl = lv.length := by rw [hl, hv.1]
  exact spec_l18Total A B C n c m d e N lv w hN hn hm hO hv h (by have := hN.ln; omega)
theorem impl_linepackOf' (A B C : Option Addr) (n c m d e nl : Nat) (N : Net) (lv : List Int) (w : World) (hN : NetAt w A B N) (hn : n = N.nodes.length) (hm : m = N.pipes.length) (hO : N.Ok) (hv : LvOk lv N.nodes.length) (h : Rd w C (lv.map iV)) (hl : nl = N.nodes.length) :
    Calls Try.prog 95 #[netV A B n c m d, .slice C nl e] w fun e w' => e = .returned (.int .i64 (lineF lv N.pipes)) ∧ Below w.heap.size w w' := by
  obtain rfl : nl = lv.length := by rw [hl, hv.1]
  exact impl_linepackOf A B C n c m d e N lv w hN hn hm hO hv h (by have := hN.ln; omega)
end Go.Proofs.Ytlkkhdbfccejjaa
