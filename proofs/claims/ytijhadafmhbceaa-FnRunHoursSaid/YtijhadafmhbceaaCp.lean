/- Copies of lists of numbers. -/
import Derived.Test.YtijhadafmhbceaaSp
import Derived.Lib.SliceRun
namespace Go.Proofs.Ytijhadafmhbceaa
set_option linter.unusedVariables false
set_option linter.unusedSimpArgs false
open Go.RowKit
theorem addr_add (b off j : Nat) : (⟨b, off, none⟩ : Addr).add j = ⟨b, off + j, none⟩ := by unfold Addr.add; split <;> simp_all
section
variable {P : Program} (w : World)
/-- append(s, x..) of a slice that reads as news -/
theorem wp_appS {ops : Array Oper} {rest : List Oper} {o : Oper} {a : Act} {Q : Exit → Act → World → Prop} (hgd : o.guard = none) (s x : Operand) (t : TypeId)
    (ho : o.op = .call { callee := .builtin .append, args := #[s, x], argTypes := #[t, t] })
    (base : Nat) {e : TypeId} {z : Value} {size bytes : Nat} (hinfo : (P.info? e).map (fun i => (i.zero, i.size, i.bytes)) = some (some z, size, bytes)) (ht : P.underlying t = some (.slice e))
    (hzs : z.cells.size = size) (hsz : 0 < size) (hby : bytes ≤ 1024)
    (v : Value) (n : Nat) (xs : List Value) (hs : a.eval s = v) (hown : Own w base e size v n xs)
    (ad : Addr) (m c : Nat) (news : List Value) (hx : a.eval x = .slice (some ad) m c) (hl : news.length = m * size) (hrd : Rd w (some ad) news) (h1 : ∀ u ∈ news, u.oneCell' = true)
    (hn : n + m ≤ 4194304) (hbase : base ≤ w.heap.size)
    (h : ∀ v' w', Own w' base e size v' (n + m) (xs ++ news) → Below base w w' → (v' = .slice none 0 0 ↔ v = .slice none 0 0 ∧ m = 0) → wpList P ops Q rest (a.put o.dst v') w') : wpList P ops Q (o :: rest) a w := by
  obtain ⟨i, hi, hz, hsize, hb⟩ := info_parts hinfo
  refine wpList_append_own w hgd s x t ho base e i z size bytes ht hi hz hsize hb hzs hsz v n xs hs hown ad m c news hx hl (fun j u hu => ?_) h1 ?_ ?_ hbase (fun v' w' h2 h3 h4 => h v' w' h2 ?_ h4)
  · obtain ⟨b, off, e1, _, hat⟩ := hrd (by rintro rfl; simp at hu)
    injection e1 with e1; subst e1
    rw [addr_add]; exact hat j u hu
  · unfold maxLen; omega
  · calc (n + m) * bytes ≤ 4194304 * 1024 := Nat.mul_le_mul hn hby
      _ ≤ 140737488355328 := by omega
  · exact (Below.refl base w).grown h3 hbase (fun k hk => (World.ownsRow.lt hown k hk).1)
end
theorem iV_one (l : List Int) : ∀ u ∈ l.map iV, u.oneCell' = true := fun u hu => by
  obtain ⟨x, _, rfl⟩ := List.mem_map.1 hu
  rfl
theorem Rd.none_nil {w : World} {xs : List Value} (h : Rd w none xs) : xs = [] := by
  cases xs with
  | nil => rfl
  | cons x l => obtain ⟨b, off, e, _⟩ := h (by simp); cases e
set_option maxRecDepth 100000 in
set_option maxHeartbeats 1000000 in
theorem slices_CloneI (A : Option Addr) (c : Nat) (l : List Int) (w : World) (h : Rd w A (l.map iV)) (hl : l.length ≤ 1048576) :
    Calls Try.prog 55 #[.slice A l.length c] w (MadeL w 1 l.length (l.map iV)) := by
  have heq : ∀ (w : World) (a : Option Addr) (n c : Nat), (binOp .eql 28 (.slice a n c) (.slice none 0 0)).run Try.prog w = .ok (.bool a.isNone) w := fun w a n c => Lib.run_eql_slice_nil w _ 2 a n c 0 0 Try.underlying28
  cases A with
  | none =>
    obtain rfl : l = [] := by simpa using h.none_nil
    go_enter Try.func55, Try.ntmps55
    go_wp2
    go_ret
    exact ⟨none, 0, rfl, Nat.le_refl _, by simpa using Wr.nil w.heap.size w, Below.refl _ _⟩
  | some ad =>
    have HR := Lib.hid h
    clear h
    have HO := Lib.hid (Own.lit0 w w.heap.size 2 1 (Nat.le_refl _))
    go_enter Try.func55, Try.ntmps55
    go_wp2_with ((at_builtin; refine wp_appS _ rfl (.tmp 5) (.tmp 6) 28 rfl w.heap.size info_i64 Try.underlying28 rfl (by omega) (by omega) _ 0 [] rfl HO.out ad l.length c (l.map iV) rfl (by simp) (HR.out.below (by (repeat' (first | (with_reducible exact Below.refl _ _) | (with_reducible assumption) | (with_reducible refine Below.alloc ?_ ?_ _) | (with_reducible refine Below.drew ?_) | (with_reducible refine Below.drewN' ?_ _) | (with_reducible refine Below.setCell ?_ ?_ _) | (refine Below.via ?_ (by with_reducible assumption) ?_) | (with_reducible refine Below.via ?_ (Wd.h _) ?_) | go_size)))) (iV_one l) (by omega) (by simp) ?_; intro v' wn hO' hbn _))
    go_ret
    rw [Nat.zero_add, List.nil_append] at hO'
    obtain ⟨B, cc, rfl, hnc, hw⟩ := hO'.lt_
    exact ⟨B, cc, rfl, hnc, hw, Below.via (by (repeat' (first | (with_reducible exact Below.refl _ _) | (with_reducible assumption) | (with_reducible refine Below.alloc ?_ ?_ _) | (with_reducible refine Below.drew ?_) | (with_reducible refine Below.drewN' ?_ _) | (with_reducible refine Below.setCell ?_ ?_ _) | (refine Below.via ?_ (by with_reducible assumption) ?_) | (with_reducible refine Below.via ?_ (Wd.h _) ?_) | go_size))) hbn (Nat.le_refl _)⟩
end Go.Proofs.Ytijhadafmhbceaa
