/- Copies of lists of numbers. -/
import Derived.Test.YtbdacplndmnkhaaGreatDoorSp
import Derived.Lib.SliceRun
namespace Go.Proofs.YtbdacplndmnkhaaGreatDoor
set_option linter.unusedVariables false
set_option linter.unusedSimpArgs false
open Go.RowKit
theorem addr_add (b off j : Nat) : (⟨b, off, none⟩ : Addr).add j = ⟨b, off + j, none⟩ := by unfold Addr.add; split <;> simp_all
section
variable {P : Program} (w : World)
/-- append(s, x..) of a slice that reads as news -/
theorem wp_appS {ops : Array Oper} {rest : List Oper} {o : Oper} {a : Act} {Q : Exit → Act → World → Prop} (hgd : o.guard = none) (s x : Operand) (t : TypeId)
    (ho : o.op = .call { callee := .builtin .append, args := #[s, x], argTypes := #[t, t] })
    (base : Nat) {e : TypeId} {z : Value} {size bytes : Nat} (hinfo : (P.info? e).map (fun i => (i.zero, i.size, i.bytes)) = some (some z, size, bytes)) (ht : P.underlying t = some (.slice e))
    (hzs : z.cells.size = size) (hsz : 0 < size) (hby : bytes ≤ 1024)
    (v : Value) (n : Nat) (xs : List Value) (hs : a.eval s = v) (hown : Own w base e size v n xs)
    (ad : Addr) (m c : Nat) (news : List Value) (hx : a.eval x = .slice (some ad) m c) (hl : news.length = m * size) (hrd : Rd w (some ad) news) (h1 : ∀ u ∈ news, u.oneCell' = true)
    (hn : n + m ≤ 4194304) (hbase : base ≤ w.heap.size)
    (h : ∀ v' w', Own w' base e size v' (n + m) (xs ++ news) → Below base w w' → (v' = .slice none 0 0 ↔ v = .slice none 0 0 ∧ m = 0) → wpList P ops Q rest (a.put o.dst v') w') : wpList P ops Q (o :: rest) a w := by
  obtain ⟨i, hi, hz, hsize, hb⟩ := info_parts hinfo
  refine wpList_append_own w hgd s x t ho base e i z size bytes ht hi hz hsize hb hzs hsz v n xs hs hown ad m c news hx hl (fun j u hu => ?_) h1 ?_ ?_ hbase (fun v' w' h2 h3 h4 => h v' w' h2 ?_ h4)
  · obtain ⟨b, off, e1, _, hat⟩ := hrd (by rintro rfl; simp at hu)
    injection e1 with e1; subst e1
    rw [addr_add]; exact hat j u hu
  · unfold maxLen; omega
  · calc (n + m) * bytes ≤ 4194304 * 1024 := Nat.mul_le_mul hn hby
      _ ≤ 140737488355328 := by omega
  · exact (Below.refl base w).grown h3 hbase (fun k hk => (World.ownsRow.lt hown k hk).1)
end
theorem iV_one (l : List Int) : ∀ u ∈ l.map iV, u.oneCell' = true := fun u hu => by
  obtain ⟨x, _, rfl⟩ := List.mem_map.1 hu
  rfl
theorem Rd.none_nil {w : World} {xs : List Value} (h : Rd w none xs) : xs = [] := by
  cases xs with
  | nil => rfl
  | cons x l => obtain ⟨b, off, e, _⟩ := h (by simp); cases e
end Go.Proofs.YtbdacplndmnkhaaGreatDoor
