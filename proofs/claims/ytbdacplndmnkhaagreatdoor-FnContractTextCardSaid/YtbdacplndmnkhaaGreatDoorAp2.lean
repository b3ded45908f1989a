/- Appending to one of several slices of the call's own: the others stay. -/
import Derived.Test.YtbdacplndmnkhaaGreatDoorAp
namespace Go.Proofs.YtbdacplndmnkhaaGreatDoor
set_option linter.unusedVariables false
set_option linter.unusedSimpArgs false
open Go.RowKit
/-- two slices of the call's own do not share a block -/
def Apart (u v : Value) : Prop := ∀ g, u.ownBlock = some g → v.ownBlock ≠ some g
theorem Apart.symm {u v : Value} (h : Apart u v) : Apart v u := fun g hv hu => h g hu hv
theorem Apart.nil_l (v : Value) : Apart (.slice none 0 0) v := fun g h => by simp [Value.ownBlock] at h
theorem Apart.nil_r (v : Value) : Apart v (.slice none 0 0) := (Apart.nil_l v).symm
/-- behind an append to v (which became v'): all that lies elsewhere is as it was -/
structure Far (w w' : World) (v v' : Value) : Prop where
  grow : w.grownBy w' v.ownBlock
  lie : ∀ g, v'.ownBlock = some g → v.ownBlock = some g ∨ g = w.heap.size
theorem Far.own {w w' : World} {v v' u : Value} {base s n : Nat} {e : TypeId} {xs : List Value} (h : Far w w' v v') (ho : Own w base e s u n xs) (ha : Apart v u) : Own w' base e s u n xs := by
  refine World.ownsRow.kept ho h.grow ?_
  cases hu : u.ownBlock with
  | none => exact .inl rfl
  | some g => exact .inr fun e => ha g e.symm hu
theorem Far.apart {w w' : World} {v v' u : Value} {base s n : Nat} {e : TypeId} {xs : List Value} (h : Far w w' v v') (ho : Own w base e s u n xs) (ha : Apart v u) : Apart v' u := by
  intro g hg hu
  rcases h.lie g hg with h1 | h1
  · exact ha g h1 hu
  · have := (World.ownsRow.lt ho g hu).2; omega
theorem Far.cell {w w' : World} {v v' : Value} {b o : Nat} (h : Far w w' v v') (hb : b < w.heap.size) (hv : v.ownBlock ≠ some b) : w'.cell? ⟨b, o, none⟩ = w.cell? ⟨b, o, none⟩ :=
  World.cell?_of_block (h.grow.block b hb (Ne.symm hv))
theorem Far.frozen {w w' : World} {v v' : Value} {b o : Nat} (h : Far w w' v v') (hb : b < w.heap.size) (hv : v.ownBlock ≠ some b) : w'.frozen? ⟨b, o, none⟩ = w.frozen? ⟨b, o, none⟩ :=
  World.frozen?_of_block (h.grow.block b hb (Ne.symm hv))
theorem Own.ne {w : World} {v : Value} {base s n : Nat} {e : TypeId} {xs : List Value} (h : Own w base e s v n xs) {b : Nat} (hb : b < base ∨ w.heap.size ≤ b) : v.ownBlock ≠ some b := fun e => by
  have := World.ownsRow.lt h b e; omega
section
variable {P : Program} (w : World)
theorem app1x {o : Oper} {a : Act} {K : Act → World → Prop} {Q : Exit → Act → World → Prop} (s x : Operand) (t : TypeId)
    (ho : o.op = .call { callee := .builtin .append, args := #[s, x], argTypes := #[t, t] })
    (base : Nat) {e : TypeId} {z : Value} {size bytes : Nat} (hinfo : (P.info? e).map (fun i => (i.zero, i.size, i.bytes)) = some (some z, size, bytes)) (ht : P.underlying t = some (.slice e))
    (hzs : z.cells.size = size) (hsz : 0 < size) (hby : bytes ≤ 1024)
    (v : Value) (n : Nat) (xs : List Value) (hs : a.eval s = v) (hown : Own w base e size v n xs)
    (g m c : Nat) (news : List Value) (hx : a.eval x = .slice (some ⟨g, 0, none⟩) m c) (hl : news.length = m * size) (hnews : ∀ j u, news[j]? = some u → w.cell? ⟨g, j, none⟩ = some u) (h1 : ∀ u ∈ news, u.oneCell' = true)
    (hm : 0 < m) (hn : n + m ≤ 4194304) (hbase : base ≤ w.heap.size)
    (h : ∀ v' w', Own w' base e size v' (n + m) (xs ++ news) → Below base w w' → Far w w' v v' → K (a.put o.dst v') w') : o.wp P a w K Q := by
  obtain ⟨i, hi, hz, hsize, hb⟩ := info_parts hinfo
  refine wp_append_lies w s x t ho base e i z size bytes ht hi hz hsize hb hzs hsz v n xs hs hown ⟨g, 0, none⟩ m c news hx hl (fun j u hu => ?_) h1 hm ?_ ?_ hbase _ rfl (fun g cap w' h2 h3 h4 h5 => h _ w' h2 ?_ ⟨h3, ?_⟩)
  · have := hnews j u hu
    have e : (⟨g, 0, none⟩ : Addr).add j = ⟨g, j, none⟩ := by unfold Addr.add; split <;> simp_all
    rw [e]; exact this
  · unfold maxLen; omega
  · calc (n + m) * bytes ≤ 4194304 * 1024 := Nat.mul_le_mul hn hby
      _ ≤ 140737488355328 := by omega
  · exact (Below.refl base w).grown h3 hbase (fun k hk => (World.ownsRow.lt hown k hk).1)
  · intro g' hg'
    have : g' = g := by simpa [Value.ownBlock] using hg'.symm
    subst this
    exact h4
theorem wp_app1x {ops : Array Oper} {rest : List Oper} {o : Oper} {a : Act} {Q : Exit → Act → World → Prop} (hgd : o.guard = none) (s x : Operand) (t : TypeId)
    (ho : o.op = .call { callee := .builtin .append, args := #[s, x], argTypes := #[t, t] })
    (base : Nat) {e : TypeId} {z : Value} {size bytes : Nat} (hinfo : (P.info? e).map (fun i => (i.zero, i.size, i.bytes)) = some (some z, size, bytes)) (ht : P.underlying t = some (.slice e))
    (hzs : z.cells.size = size) (hsz : 0 < size) (hby : bytes ≤ 1024)
    (v : Value) (n : Nat) (xs : List Value) (hs : a.eval s = v) (hown : Own w base e size v n xs)
    (g m c : Nat) (news : List Value) (hx : a.eval x = .slice (some ⟨g, 0, none⟩) m c) (hl : news.length = m * size) (hnews : ∀ j u, news[j]? = some u → w.cell? ⟨g, j, none⟩ = some u) (h1 : ∀ u ∈ news, u.oneCell' = true)
    (hm : 0 < m) (hn : n + m ≤ 4194304) (hbase : base ≤ w.heap.size)
    (h : ∀ v' w', Own w' base e size v' (n + m) (xs ++ news) → Below base w w' → Far w w' v v' → wpList P ops Q rest (a.put o.dst v') w') : wpList P ops Q (o :: rest) a w :=
  wpList_plain hgd fun _ hK => app1x w s x t ho base hinfo ht hzs hsz hby v n xs hs hown g m c news hx hl hnews h1 hm hn hbase fun v' w' h2 h3 h4 => hK _ _ (h v' w' h2 h3 h4)
theorem step_of {ops : Array Oper} {o : Oper} {a : Act} {w : World} {K : Act → World → Prop} {Q : Exit → Act → World → Prop} {E : Prop} (hgd : o.guard = none) (h : Oper.wp P o a w K Q) :
    if Region.wanted o (yielded ops a.tmps) = true then Oper.wp P o a w K Q else E := by
  have hw : Region.wanted o (yielded ops a.tmps) = true := by simp [Region.wanted, hgd]
  rw [if_pos hw]
  exact h
end
end Go.Proofs.YtbdacplndmnkhaaGreatDoor
