/- Appending a list to an empty slice without capacity, in a region that draws its order. -/
import Derived.Test.YtijhadafmhbceaaCp
import Derived.Test.YtijhadafmhbceaaAp2
import Derived.Deep.RegionLawGrows
namespace Go.Proofs.Ytijhadafmhbceaa
set_option linter.unusedVariables false
set_option linter.unusedSimpArgs false
open Go.RowKit
theorem app0 {P : Program} {ops : Array Oper} {o : Oper} {a : Act} {w : World} {K : Act → World → Prop} {Q : Exit → Act → World → Prop} {E : Prop}
    (hgd : o.guard = none) (s x : Operand) (t : TypeId)
    (ho : o.op = .call { callee := .builtin .append, args := #[s, x], argTypes := #[t, t] })
    {e : TypeId} {z : Value} {size bytes : Nat} (hinfo : (P.info? e).map (fun i => (i.zero, i.size, i.bytes)) = some (some z, size, bytes)) (ht : P.underlying t = some (.slice e))
    (hzs : z.cells.size = size) (hsz : 0 < size) (hby : bytes ≤ 1024)
    (ao : Option Addr) (hs : a.eval s = .slice ao 0 0)
    (ad : Addr) (m c : Nat) (news : List Value) (hx : a.eval x = .slice (some ad) m c) (hl : news.length = m * size) (hrd : Rd w (some ad) news) (h1 : ∀ u ∈ news, u.oneCell' = true)
    (hm : 0 < m) (hn : m ≤ 4194304)
    (h : ∀ v' w', Own w' w.heap.size e size v' m news → Below w.heap.size w w' → K (a.put o.dst v') w') :
    if Region.wanted o (yielded ops a.tmps) = true then Oper.wp P o a w K Q else E := by
  obtain ⟨i, hi, hz, hsize, hb⟩ := info_parts hinfo
  refine step_append_grows hgd s x t ho e i z size bytes ht hi hz hsize hb hzs hsz ao 0 0 [] hs (fun _ => ⟨rfl, rfl⟩) (by simp) (fun b _ j u hu => by simp at hu) ad m c news hx hl (fun j u hu => ?_) h1 (by omega) ?_ ?_ (fun v' w' h2 h3 => h v' w' ?_ ?_)
  · obtain ⟨b, off, e1, _, hat⟩ := hrd (by rintro rfl; simp at hu)
    injection e1 with e1; subst e1
    rw [addr_add]; exact hat j u hu
  · unfold maxLen; omega
  · calc (0 + m) * bytes ≤ 4194304 * 1024 := Nat.mul_le_mul (by omega) hby
      _ ≤ 140737488355328 := by omega
  · rw [Nat.zero_add, List.nil_append] at h2; exact h2
  · exact (Below.refl _ w).grown h3 (Nat.le_refl _) (fun k hk => by cases hk)
theorem rd_some {w : World} {A : Option Addr} {xs : List Value} (h : Rd w A xs) (hx : xs ≠ []) : ∃ ad, A = some ad := by
  obtain ⟨b, off, e, _⟩ := h hx
  exact ⟨_, e⟩
end Go.Proofs.Ytijhadafmhbceaa
