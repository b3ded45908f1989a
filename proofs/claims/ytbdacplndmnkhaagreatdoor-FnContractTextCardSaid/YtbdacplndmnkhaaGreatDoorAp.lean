/- Appending one element to a slice of the call's own. -/
import Derived.Test.YtbdacplndmnkhaaGreatDoorRd
import Derived.OwnWalk
import Derived.Laws.AppendOwn
import Derived.Laws.OwnMore
import Derived.Deep.AppendLies
namespace Go.Proofs.YtbdacplndmnkhaaGreatDoor
set_option linter.unusedVariables false
set_option linter.unusedSimpArgs false
open Go.RowKit

/-- a slice of the call's own (from block base on): n elements of s cells of type e, which read as xs -/
def Own (w : World) (base : Nat) (e : TypeId) (s : Nat) (v : Value) (n : Nat) (xs : List Value) : Prop := w.ownsRow base e s v n xs
theorem Own.below {w w' : World} {base B : Nat} {e : TypeId} {s n : Nat} {v : Value} {xs : List Value} (h : Own w base e s v n xs) (hb : Below B w w') (hB : w.heap.size ≤ B) : Own w' base e s v n xs := by
  refine ⟨h.1, ?_⟩
  rcases h.2 with h0 | ⟨g, cap, cur, hv, hg, hh, r⟩
  · exact .inl h0
  · refine .inr ⟨g, cap, cur, hv, hg, ?_, r⟩
    have hlt : g < w.heap.size := by
      rcases Nat.lt_or_ge g w.heap.size with hl | hl
      · exact hl
      · rw [Array.getElem?_eq_none hl] at hh; cases hh
    rw [hb.block g (by omega)]; exact hh
theorem Own.alloc {w : World} {base : Nat} {e : TypeId} {s n : Nat} {v : Value} {xs : List Value} (h : Own w base e s v n xs) (o : Obj) : Own (w.alloc o) base e s v n xs := World.ownsRow.alloc h o
theorem Own.drew {w : World} {base : Nat} {e : TypeId} {s n : Nat} {v : Value} {xs : List Value} (h : Own w base e s v n xs) : Own w.drew base e s v n xs := World.ownsRow.drew h
theorem Own.drewN {w : World} {base : Nat} {e : TypeId} {s n : Nat} {v : Value} {xs : List Value} (h : Own w base e s v n xs) (k : Nat) : Own (w.drewN k) base e s v n xs := h
theorem Own.nil (w : World) (base : Nat) (e : TypeId) (s : Nat) : Own w base e s (.slice none 0 0) 0 [] := World.ownsRow_nil w base e s
theorem Own.set_below {w : World} {base : Nat} {e : TypeId} {s n : Nat} {v : Value} {xs : List Value} (h : Own w base e s v n xs) {a : Addr} (ha : a.block < base) (u : Value) : Own (w.setCell a u) base e s v n xs := ownsRow_setCell_below h ha u
theorem Own.lit0 (w : World) (base : Nat) (e : TypeId) (s : Nat) (hb : base ≤ w.heap.size) : Own (w.alloc (.cells #[] e)) base e s (.slice (some ⟨w.heap.size, 0, none⟩) 0 0) 0 [] :=
  World.ownsRow_lit (base := base) (e := e) (size := s) w #[] 0 hb (by simp [maxLen]) (by simp)
theorem map_snoc {α β : Type} {f : α → β} {l : List α} {k : Nat} {x : α} (h : l[k]? = some x) : (l.take (k + 1)).map f = (l.take k).map f ++ [f x] := by
  obtain ⟨hk, rfl⟩ := List.getElem?_eq_some_iff.1 h
  rw [List.take_succ_eq_append_getElem hk, List.map_append]; rfl
/-- the slice's value, and its reading -/
theorem Own.val {w : World} {base : Nat} {e : TypeId} {s n : Nat} {v : Value} {xs : List Value} (h : Own w base e s v n xs) : ∃ A c, v = .slice A n c ∧ n ≤ c ∧ Rd w A xs ∧ ∀ b off, A = some ⟨b, off, none⟩ → base ≤ b := by
  rcases h.2 with ⟨rfl, rfl⟩ | ⟨g, cap, cur, rfl, hg, hh, hnc, hm, hsz, ht⟩
  · have : xs = [] := List.eq_nil_of_length_eq_zero (by simpa using h.1)
    subst this
    exact ⟨none, 0, rfl, Nat.le_refl _, Rd.nil, fun b off e => by cases e⟩
  · have hlt : g < w.heap.size := by
      rcases Nat.lt_or_ge g w.heap.size with hl | hl
      · exact hl
      · rw [Array.getElem?_eq_none hl] at hh; cases hh
    refine ⟨some ⟨g, 0, none⟩, cap, rfl, hnc, Rd.mk (fun j v e => ?_) hlt, fun b off e => by injection e with e; injection e with e1 e2; omega⟩
    rw [Nat.zero_add]
    have hj : j < xs.length := (List.getElem?_eq_some_iff.1 e).1
    rw [cell_of_row w g j cur _ (0, 0) hh]
    have h2 : cur[j]? = cur.toList[j]? := by simp
    rw [h2]
    have : (cur.toList.take (n * s))[j]? = some v := by rw [ht]; exact e
    rw [List.getElem?_take] at this
    split at this
    · exact this
    · cases this
theorem Own.arr {w : World} {base : Nat} {e : TypeId} {s n : Nat} {v : Value} {xs : List Value} (h : Own w base e s v n xs) (hn : 0 < n) : ∃ g c, v = .slice (some ⟨g, 0, none⟩) n c ∧ base ≤ g ∧ n ≤ c ∧ Arr w g (n * s) xs := by
  rcases h.2 with ⟨_, rfl⟩ | ⟨g, cap, cur, rfl, hg, hh, hnc, hm, hsz, ht⟩
  · omega
  · have hlt : g < w.heap.size := by
      rcases Nat.lt_or_ge g w.heap.size with hl | hl
      · exact hl
      · rw [Array.getElem?_eq_none hl] at hh; cases hh
    have hc : ∀ j, w.cell? ⟨g, j, none⟩ = cur[j]? := fun j => cell_of_row w g j cur _ (0, 0) hh
    refine ⟨g, cap, rfl, hg, hnc, hlt, fun j hj => ⟨?_, by simp [World.frozen?, hh]⟩, fun j v e => ?_⟩
    · rw [hc]
      have : j < cur.size := by rw [hsz]; exact Nat.lt_of_lt_of_le hj (Nat.mul_le_mul_right s hnc)
      exact ⟨_, Array.getElem?_eq_getElem this⟩
    · rw [hc]
      have h2 : cur[j]? = cur.toList[j]? := by simp
      rw [h2]
      have : (cur.toList.take (n * s))[j]? = some v := by rw [ht]; exact e
      rw [List.getElem?_take] at this
      split at this
      · exact this
      · cases this

section
variable {P : Program} (w : World)
/-- append(s, x..) of one element that lies in a block of its own -/
theorem wp_app1 {ops : Array Oper} {rest : List Oper} {o : Oper} {a : Act} {Q : Exit → Act → World → Prop} (hgd : o.guard = none) (s x : Operand) (t : TypeId)
    (ho : o.op = .call { callee := .builtin .append, args := #[s, x], argTypes := #[t, t] })
    (base : Nat) {e : TypeId} {z : Value} {size bytes : Nat} (hinfo : (P.info? e).map (fun i => (i.zero, i.size, i.bytes)) = some (some z, size, bytes)) (ht : P.underlying t = some (.slice e))
    (hzs : z.cells.size = size) (hsz : 0 < size) (hby : bytes ≤ 1024)
    (v : Value) (n : Nat) (xs : List Value) (hs : a.eval s = v) (hown : Own w base e size v n xs)
    (g m c : Nat) (news : List Value) (hx : a.eval x = .slice (some ⟨g, 0, none⟩) m c) (hl : news.length = m * size) (hnews : ∀ j u, news[j]? = some u → w.cell? ⟨g, j, none⟩ = some u) (h1 : ∀ u ∈ news, u.oneCell' = true)
    (hn : n + m ≤ 4194304) (hbase : base ≤ w.heap.size)
    (h : ∀ v' w', Own w' base e size v' (n + m) (xs ++ news) → Below base w w' → wpList P ops Q rest (a.put o.dst v') w') : wpList P ops Q (o :: rest) a w := by
  obtain ⟨i, hi, hz, hsize, hb⟩ := info_parts hinfo
  refine wpList_append_own w hgd s x t ho base e i z size bytes ht hi hz hsize hb hzs hsz v n xs hs hown ⟨g, 0, none⟩ m c news hx hl (fun j u hu => ?_) h1 ?_ ?_ hbase (fun v' w' h2 h3 h4 => h v' w' h2 ?_)
  · have := hnews j u hu
    have e : (⟨g, 0, none⟩ : Addr).add j = ⟨g, j, none⟩ := by unfold Addr.add; split <;> simp_all
    rw [e]; exact this
  · unfold maxLen; omega
  · calc (n + m) * bytes ≤ 4194304 * 1024 := Nat.mul_le_mul hn hby
      _ ≤ 140737488355328 := by omega
  · exact (Below.refl base w).grown h3 hbase (fun k hk => (World.ownsRow.lt hown k hk).1)
end
theorem bcellB {B : Nat} {W w1 : World} (hb : Below B W w1) : (∀ b o, b < B → w1.cell? ⟨b, o, none⟩ = W.cell? ⟨b, o, none⟩) ∧ (∀ b o, b < B → w1.frozen? ⟨b, o, none⟩ = W.frozen? ⟨b, o, none⟩) :=
  ⟨fun b o h => hb.cell (p := ⟨b, o, none⟩) h, fun b o h => hb.frozen (p := ⟨b, o, none⟩) h⟩
/-- what a call that makes a slice hands back -/
def MadeO (w : World) (e : TypeId) (s n : Nat) (xs : List Value) (en : Ending) (w' : World) : Prop :=
  ∃ v, en = .returned v ∧ Own w' w.heap.size e s v n xs ∧ Below w.heap.size w w'
end Go.Proofs.YtbdacplndmnkhaaGreatDoor
