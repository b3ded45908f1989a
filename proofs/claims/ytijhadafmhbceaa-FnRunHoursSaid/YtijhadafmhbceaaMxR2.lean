/- DrawRunHours: the walk. -/
import Derived.Test.YtijhadafmhbceaaDhd
import Derived.Test.YtijhadafmhbceaaMxR1
namespace Go.Proofs.Ytijhadafmhbceaa
set_option linter.unusedVariables false
set_option linter.unusedSimpArgs false
open Go.RowKit
theorem Bx.setR {w : World} {b : Nat} {cs : List Value} (h : Bx w b cs) (i : Nat) (v : Value) (hi : i < cs.length) : Bx (w.setCell ⟨b, i, none⟩ v) b (cs.set i v) := by
  have hy := h.lt
  refine ⟨by simpa [World.setCell] using hy, fun k u e => ?_⟩
  by_cases hk : i = k
  · subst hk
    have c := h.cell i (List.getElem?_eq_getElem hi)
    have f := h.frozen i (List.getElem?_eq_getElem hi)
    rw [List.getElem?_set_self hi] at e
    injection e with e; subst e
    constructor <;> simp [go_sem, c, f, hy]
  · rw [List.getElem?_set_ne hk] at e
    have c := h.cell k e
    have f := h.frozen k e
    have hk2 : ¬ k = i := fun q => hk q.symm
    constructor <;> simp [go_sem, c, f, hy, hk, hk2]
theorem bx_fill2R {w : World} {b : Nat} {z0 z1 : Value} (h : Bx w b [z0, z1]) (v0 v1 : Value) : Bx ((w.setCell ⟨b, 0, none⟩ v0).setCell ⟨b, 1, none⟩ v1) b [v0, v1] :=
  (h.setR 0 v0 (by simp)).setR 1 v1 (by simp)
theorem keep2R {w : World} {b : Nat} (v0 v1 : Value) : Keep (· = b) w ((w.setCell ⟨b, 0, none⟩ v0).setCell ⟨b, 1, none⟩ v1) := ((Keep.refl (· = b) w).setCell rfl v0).setCell rfl v1
theorem Bx.pokeR {S : Nat → Prop} {w w' : World} {b : Nat} {cs : List Value} (h : Bx w b cs) (hk : Keep S w w') (hs : ¬ S b) : Bx w' b cs := h.keep hk hs
theorem Src.keepR {w w' : World} {p : Nat} {S : Nat → Prop} (h : Src w p) (hk : Keep S w w') (hS : ∀ k, S k → p < k) : Src w' p := by
  refine h.high (B := p + 1) ⟨hk.os, hk.tape, hk.output, hk.size, fun k q => hk.block k (by have := h.lt; omega) (fun z => ?_)⟩ (by omega)
  have := hS k z; omega
def onR (x : Hr) (k : Nat) : Prop := onA x.A k ∨ onA x.B k
theorem Own.keepSR {S : Nat → Prop} {w w' : World} {base s n : Nat} {e : TypeId} {v : Value} {xs : List Value} (h : Own w base e s v n xs) (hk : Keep S w w') (hS : ∀ g, v.ownBlock = some g → ¬ S g) : Own w' base e s v n xs := by
  refine ⟨h.1, ?_⟩
  rcases h.2 with h0 | ⟨g, cap, cur, hv, hg, hh, r⟩
  · exact .inl h0
  · refine .inr ⟨g, cap, cur, hv, hg, ?_, r⟩
    have hlt : g < w.heap.size := by
      rcases Nat.lt_or_ge g w.heap.size with hl | hl
      · exact hl
      · rw [Array.getElem?_eq_none hl] at hh; cases hh
    rw [hk.block g hlt (hS g (by rw [hv]; rfl))]; exact hh
/-- what stays while the hours are made: from world w2 on, the hours in the own slice u -/
structure RD (w w2 : World) (p : Nat) (A Bq Al Ah An Fa Fb : Option Addr) (c d cl ch cn ca cb : Nat) (N : Net) (ll lh ln la lb : List Int) (u : Value) (ys : List Hr) (wr : World) : Prop where
  kp : Keep (· = p) w2 wr
  src : Src wr p
  o : Own wr (w2.heap.size + 3) 40 2 u ys.length (ys.flatMap Hr.cells)
  hs : ∀ x ∈ ys, HrAt wr x ∧ ∀ k, onR x k → w2.heap.size + 3 ≤ k ∧ k < wr.heap.size ∧ u.ownBlock ≠ some k
  x6 : Bx wr w2.heap.size [.slice A N.nodes.length c, .slice Bq N.pipes.length d]
  x7 : Bx wr (w2.heap.size + 1) [.slice Al ll.length cl, .slice Ah lh.length ch, .slice An ln.length cn]
  x8 : Bx wr (w2.heap.size + 1 + 1) [.slice Fa la.length ca, .slice Fb lb.length cb]
section
variable {w w2 wr wr' : World} {p : Nat} {A Bq Al Ah An Fa Fb : Option Addr} {c d cl ch cn ca cb : Nat} {N : Net} {ll lh ln la lb : List Int} {u : Value} {ys : List Hr}
theorem HrAt.keepR {S : Nat → Prop} {x : Hr} (h : HrAt wr x) (hk : Keep S wr wr') (hx : ∀ k, onR x k → ¬ S k) : HrAt wr' x :=
  ⟨h.r1.keep hk (fun b off e q => hx b (.inl ⟨off, e⟩) q), h.r2.keep hk (fun b off e q => hx b (.inr ⟨off, e⟩) q), h.s1, h.s2⟩
theorem RD.sz (h : RD w w2 p A Bq Al Ah An Fa Fb c d cl ch cn ca cb N ll lh ln la lb u ys wr) : w2.heap.size + 3 ≤ wr.heap.size := by have := h.x8.lt; omega
/-- the source and new blocks change -/
theorem RD.keep (h : RD w w2 p A Bq Al Ah An Fa Fb c d cl ch cn ca cb N ll lh ln la lb u ys wr) (hp : p < w2.heap.size) (hk : Keep (· = p) wr wr') (hs : Src wr' p) : RD w w2 p A Bq Al Ah An Fa Fb c d cl ch cn ca cb N ll lh ln la lb u ys wr' := by
  have hz := h.sz
  refine ⟨h.kp.trans hk, hs, h.o.keepSR hk (fun g q z => ?_), fun x hx => ⟨(h.hs x hx).1.keepR hk (fun k q z => by have := (h.hs x hx).2 k q; omega), fun k q => ?_⟩, h.x6.keep hk (by omega), h.x7.keep hk (by omega), h.x8.keep hk (by omega)⟩
  · have := World.ownsRow.lt h.o g q; omega
  · have h5 := (h.hs x hx).2 k q
    exact ⟨h5.1, Nat.lt_of_lt_of_le h5.2.1 hk.size, h5.2.2⟩
theorem RD.below (h : RD w w2 p A Bq Al Ah An Fa Fb c d cl ch cn ca cb N ll lh ln la lb u ys wr) (hp : p < w2.heap.size) (hb : Below wr.heap.size wr wr') : RD w w2 p A Bq Al Ah An Fa Fb c d cl ch cn ca cb N ll lh ln la lb u ys wr' :=
  h.keep hp (Keep.of_below _ hb) (h.src.below hb)
/-- an hour more -/
theorem RD.app {u' : Value} {x : Hr} {ob : Obj} (h : RD w w2 p A Bq Al Ah An Fa Fb c d cl ch cn ca cb N ll lh ln la lb u ys wr) (hp : p < w2.heap.size) (hx : HrAt wr x) (hxk : ∀ k, onR x k → w2.heap.size + 3 ≤ k ∧ k < wr.heap.size ∧ u.ownBlock ≠ some k)
    (ho : Own wr' (w2.heap.size + 3) 40 2 u' (ys.length + 1) (ys.flatMap Hr.cells ++ x.cells)) (hb : Below (w2.heap.size + 3) (wr.alloc ob) wr') (hf : Far (wr.alloc ob) wr' u u') :
    RD w w2 p A Bq Al Ah An Fa Fb c d cl ch cn ca cb N ll lh ln la lb u' (ys ++ [x]) wr' := by
  have hal : Below wr.heap.size wr (wr.alloc ob) := Below.alloc (Below.refl _ wr) (Nat.le_refl _) _
  have ha := h.below hp hal
  have hz := h.sz
  have hall : ∀ y ∈ ys ++ [x], HrAt (wr.alloc ob) y ∧ ∀ k, onR y k → w2.heap.size + 3 ≤ k ∧ k < wr.heap.size ∧ u.ownBlock ≠ some k := fun y hy => by
    rcases List.mem_append.1 hy with hy | hy
    · exact ⟨(ha.hs y hy).1, (h.hs y hy).2⟩
    · rw [List.mem_singleton.1 hy]; exact ⟨hx.below hal, hxk⟩
  have hrd : ∀ (B : Option Addr) (xs : List Value), Rd (wr.alloc ob) B xs → (∀ k, onA B k → k < wr.heap.size ∧ u.ownBlock ≠ some k) → Rd wr' B xs := fun B xs hr hB hne => by
    obtain ⟨b, off, e, hlt, hat⟩ := hr hne
    have h5 := hB b ⟨off, e⟩
    refine ⟨b, off, e, ?_, fun j v ej => (hf.cell hlt h5.2).trans (hat j v ej)⟩
    have := hb.size; simp at this; omega
  refine ⟨?_, ha.src.high hb (by omega), by simpa using ho, fun y hy => ?_, ha.x6.below hb (by omega), ha.x7.below hb (by omega), ha.x8.below hb (by omega)⟩
  · have k1 : Keep (fun k => k = p ∨ w2.heap.size + 3 ≤ k) w2 (wr.alloc ob) := (h.kp.mono fun k q => .inl q).via hal
    have k2 : Keep (fun k => k = p ∨ w2.heap.size + 3 ≤ k) (wr.alloc ob) wr' := ⟨hb.os, hb.tape, hb.output, hb.size, fun k _ q => hb.block k (by omega)⟩
    have k3 := k1.trans k2
    exact ⟨k3.os, k3.tape, k3.output, k3.size, fun k hk q => k3.block k hk (by omega)⟩
  · obtain ⟨h1, h2⟩ := hall y hy
    refine ⟨⟨hrd _ _ h1.r1 (fun k q => (h2 k (.inl q)).2), hrd _ _ h1.r2 (fun k q => (h2 k (.inr q)).2), h1.s1, h1.s2⟩, fun k q => ?_⟩
    obtain ⟨q1, q2, q3⟩ := h2 k q
    refine ⟨q1, by have := hb.size; simp at this; omega, fun e => ?_⟩
    rcases hf.lie k e with z | z
    · exact q3 z
    · simp at z; omega
end
theorem run_app_noneR {P : Program} {w : World} (base : Nat) (t ty e : TypeId) (i : TypeInfo) (size : Nat) (ht : P.underlying t = some (.slice e)) (hi : P.info? e = some i)
    (v : Value) (n c : Nat) (xs : List Value) (hown : w.ownsRow base e size v n xs) :
    (Builtin.append_ #[t, t] ty #[v, .slice none 0 c]).run P w = .ok v w := by
  rcases hown.2 with ⟨rfl, rfl⟩ | ⟨g, cap, cur, rfl, _, _, hnc, _⟩
  · simp [Builtin.append_, run_underlying ht, sizeOf, typeInfo, hi, Builtin.lenOf, Builtin.firstCells]
  · simp [Builtin.append_, run_underlying ht, sizeOf, typeInfo, hi, Builtin.lenOf, Builtin.firstCells, hnc, storeCells]
/-- append(s, x..) where x may be nil -/
theorem wp_appO {P : Program} (w : World) {ops : Array Oper} {rest : List Oper} {o : Oper} {a : Act} {Q : Exit → Act → World → Prop} (hgd : o.guard = none) (s x : Operand) (t : TypeId)
    (ho : o.op = .call { callee := .builtin .append, args := #[s, x], argTypes := #[t, t] })
    (base : Nat) {e : TypeId} {z : Value} {size bytes : Nat} (hinfo : (P.info? e).map (fun i => (i.zero, i.size, i.bytes)) = some (some z, size, bytes)) (ht : P.underlying t = some (.slice e))
    (hzs : z.cells.size = size) (hsz : 0 < size) (hby : bytes ≤ 1024)
    (v : Value) (n : Nat) (xs : List Value) (hs : a.eval s = v) (hown : Own w base e size v n xs)
    (A : Option Addr) (m c : Nat) (news : List Value) (hx : a.eval x = .slice A m c) (hl : news.length = m * size) (hrd : Rd w A news) (h1 : ∀ u ∈ news, u.oneCell' = true)
    (hn : n + m ≤ 4194304) (hbase : base ≤ w.heap.size)
    (h : ∀ v' w', Own w' base e size v' (n + m) (xs ++ news) → Below base w w' → wpList P ops Q rest (a.put o.dst v') w') : wpList P ops Q (o :: rest) a w := by
  cases A with
  | some ad => exact wp_appS w hgd s x t ho base hinfo ht hzs hsz hby v n xs hs hown ad m c news hx hl hrd h1 hn hbase fun v' w' h2 h3 _ => h v' w' h2 h3
  | none =>
    have hnews : news = [] := hrd.none_nil
    subst hnews
    have hm : m = 0 := by
      have : 0 = m * size := by simpa using hl
      rcases Nat.eq_zero_or_pos m with h0 | h0
      · exact h0
      · have := Nat.mul_pos h0 hsz; omega
    subst hm
    obtain ⟨i, hi, hz, hsize, hb⟩ := info_parts hinfo
    refine wpList_plain hgd fun K hK' => ?_
    have hrun := run_app_noneR (P := P) (w := w) base t o.type e i size ht hi v n c xs hown
    unfold Oper.wp
    simp [execOp, ho, resolve, invoke, builtin, hs, hx, hrun, Result.andThen]
    exact hK' _ _ (by simpa using h v w (by simpa using hown) (Below.refl _ _))
/-- region 9: one number of the hour's supplies is changed -/
structure WR9 (p g n : Nat) (l : List Int) (y : Int) (w0 : World) (L : Nat → Bool) (ρ : Int) (w : World) : Prop where
  kp : Keep (fun k => k = p ∨ k = g) w0 w
  src : Src w p
  a0 : L 9 = false → Arr w g n (l.map iV)
  a1 : L 9 = true → Arr w g n ((l.set 0 (IntKind.i64.wrap (IntKind.i64.wrap (y + ρ) - 4))).map iV)
section
variable {p g n : Nat} {l : List Int} {y : Int} {w0 w w' : World} {L : Nat → Bool} {ρ : Int}
theorem WR9.start (hk : Keep (fun k => k = p ∨ k = g) w0 w) (hs : Src w p) (ha : Arr w g n (l.map iV)) : WR9 p g n l y w0 (fun _ => false) ρ w := ⟨hk, hs, fun _ => ha, (fun e => by cases e)⟩
theorem WR9.pure (h : WR9 p g n l y w0 L ρ w) {i : Nat} (h9 : 9 ≠ i) : WR9 p g n l y w0 (upd L i) ρ w := by
  constructor <;> try simp only [upd_ne h9]
  · exact h.kp
  · exact h.src
  · exact h.a0
  · exact h.a1
theorem WR9.call (h : WR9 p g n l y w0 L ρ w) (hg : p < g) (h9 : L 9 = false) (hk : Keep (· = p) w w') (hs : Src w' p) {r : Int} : WR9 p g n l y w0 (upd L 5) r w' := by
  refine ⟨h.kp.trans (hk.mono fun k q => .inl q), hs, ?_, ?_⟩ <;> rw [upd_ne (by omega)]
  · exact fun e => (h.a0 e).keep hk (by omega)
  · intro e; rw [h9] at e; cases e
theorem WR9.store (h : WR9 p g n l y w0 L ρ w) (hg : p < g) (h9 : L 9 = false) (hn : 0 < n) : WR9 p g n l y w0 (upd L 9) ρ (w.setCell ⟨g, 0, none⟩ (.int .i64 (IntKind.i64.wrap (IntKind.i64.wrap (y + ρ) - 4)))) := by
  have hk : Keep (· = g) w (w.setCell ⟨g, 0, none⟩ (.int .i64 (IntKind.i64.wrap (IntKind.i64.wrap (y + ρ) - 4)))) := (Keep.refl (· = g) w).setCell (p := ⟨g, 0, none⟩) rfl _
  refine ⟨h.kp.trans (hk.mono fun k q => .inr q), h.src.keepR hk (fun k q => by omega), (fun e => by rw [upd_self] at e; cases e), fun _ => ?_⟩
  rw [map_set_iV]; exact (h.a0 h9).setAt hn _
end
/-- the last regions: two boxes are filled -/
structure WE2 (k1 k2 b1 b2 p : Nat) (x1 y1 x2 y2 : List Value) (w0 : World) (L : Nat → Bool) (w : World) : Prop where
  kp : Keep (fun k => k = b1 ∨ k = b2 ∨ k = p) w0 w
  a0 : L k1 = false → Bx w b1 x1
  a1 : L k1 = true → Bx w b1 y1
  c0 : L k2 = false → Bx w b2 x2
  c1 : L k2 = true → Bx w b2 y2
section
variable {k1 k2 b1 b2 p : Nat} {x1 y1 x2 y2 : List Value} {w0 w w' : World} {L : Nat → Bool}
theorem WE2.start (hk : Keep (fun k => k = b1 ∨ k = b2 ∨ k = p) w0 w) (h1 : Bx w b1 x1) (h2 : Bx w b2 x2) : WE2 k1 k2 b1 b2 p x1 y1 x2 y2 w0 (fun _ => false) w :=
  ⟨hk, fun _ => h1, (fun e => by cases e), fun _ => h2, (fun e => by cases e)⟩
theorem WE2.other (h : WE2 k1 k2 b1 b2 p x1 y1 x2 y2 w0 L w) {i : Nat} (h1 : k1 ≠ i) (h2 : k2 ≠ i) (hk : Keep (· = p) w w') (hp1 : p ≠ b1) (hp2 : p ≠ b2) : WE2 k1 k2 b1 b2 p x1 y1 x2 y2 w0 (upd L i) w' := by
  refine ⟨h.kp.trans (hk.mono fun k q => .inr (.inr q)), ?_, ?_, ?_, ?_⟩
  · rw [upd_ne h1]; exact fun e => (h.a0 e).keep hk (by omega)
  · rw [upd_ne h1]; exact fun e => (h.a1 e).keep hk (by omega)
  · rw [upd_ne h2]; exact fun e => (h.c0 e).keep hk (by omega)
  · rw [upd_ne h2]; exact fun e => (h.c1 e).keep hk (by omega)
theorem WE2.pure (h : WE2 k1 k2 b1 b2 p x1 y1 x2 y2 w0 L w) {i : Nat} (h1 : k1 ≠ i) (h2 : k2 ≠ i) : WE2 k1 k2 b1 b2 p x1 y1 x2 y2 w0 (upd L i) w := by
  constructor <;> try simp only [upd_ne h1, upd_ne h2]
  · exact h.kp
  · exact h.a0
  · exact h.a1
  · exact h.c0
  · exact h.c1
theorem WE2.st1 (h : WE2 k1 k2 b1 b2 p x1 y1 x2 y2 w0 L w) (hne : k2 ≠ k1) (hb : b1 ≠ b2) (hk : Keep (· = b1) w w') (hx : Bx w' b1 y1) : WE2 k1 k2 b1 b2 p x1 y1 x2 y2 w0 (upd L k1) w' := by
  refine ⟨h.kp.trans (hk.mono fun k q => .inl q), (fun e => by rw [upd_self] at e; cases e), fun _ => hx, ?_, ?_⟩ <;> rw [upd_ne hne]
  · exact fun e => (h.c0 e).keep hk (by omega)
  · exact fun e => (h.c1 e).keep hk (by omega)
theorem WE2.st2 (h : WE2 k1 k2 b1 b2 p x1 y1 x2 y2 w0 L w) (hne : k1 ≠ k2) (hb : b1 ≠ b2) (hk : Keep (· = b2) w w') (hx : Bx w' b2 y2) : WE2 k1 k2 b1 b2 p x1 y1 x2 y2 w0 (upd L k2) w' := by
  refine ⟨h.kp.trans (hk.mono fun k q => .inr (.inl q)), ?_, ?_, (fun e => by rw [upd_self] at e; cases e), fun _ => hx⟩ <;> rw [upd_ne hne]
  · exact fun e => (h.a0 e).keep hk (by omega)
  · exact fun e => (h.a1 e).keep hk (by omega)
end
abbrev hz0 : Hr := ⟨none, none, 0, 0, [], []⟩
theorem made_hr (w : World) (m : Nat) : Arr (w.alloc (.cells (madeCells #[.slice none 0 0, .slice none 0 0] (m * 2)) 40)) w.heap.size (m * 2) ((List.replicate m hz0).flatMap Hr.cells) := by
  have hc : ∀ j, j < m * 2 → (w.alloc (.cells (madeCells #[Value.slice none 0 0, Value.slice none 0 0] (m * 2)) 40)).cell? ⟨w.heap.size, j, none⟩ = some (.slice none 0 0) := fun j hj => by
    have h1 : (w.alloc (.cells (madeCells #[Value.slice none 0 0, Value.slice none 0 0] (m * 2)) 40)).cell? ⟨w.heap.size, j, none⟩ = (madeCells #[Value.slice none 0 0, Value.slice none 0 0] (m * 2))[j]? := by simp
    rw [h1]
    have h2 : j % 2 = 0 ∨ j % 2 = 1 := by omega
    rcases h2 with h2 | h2 <;> simp [madeCells, hj, h2]
  refine ⟨by simp, fun j hj => ⟨⟨_, hc j hj⟩, by simp⟩, fun j v e => ?_⟩
  have hj : j < m * 2 := by
    have := (List.getElem?_eq_some_iff.1 e).1
    rw [flat_len Hr.len, List.length_replicate] at this; exact this
  have hv : v = .slice none 0 0 := by
    have hm := List.mem_of_getElem? e
    obtain ⟨x, hx, hxv⟩ := List.mem_flatMap.1 hm
    rw [List.eq_of_mem_replicate hx] at hxv
    simp [Hr.cells] at hxv
    exact hxv
  rw [hc j hj, hv]
/-- region 12 -/
structure WE12 (b1 b2 p : Nat) (x1 y1 x2 y2 : List Value) (w0 : World) (L : Nat → Bool) (ρ : Nat × Nat) (w : World) : Prop where
  we : WE2 6 7 b1 b2 p x1 y1 x2 y2 w0 L w
  src : L 6 = false → L 7 = false → Src w p
  rn : L 3 = true → 48 ≤ ρ.1 ∧ ρ.1 ≤ 49
  md : L 5 = true → w0.heap.size ≤ ρ.2 ∧ Arr w ρ.2 (ρ.1 * 2) ((List.replicate ρ.1 hz0).flatMap Hr.cells)
section
variable {b1 b2 p : Nat} {x1 y1 x2 y2 : List Value} {w0 w w' : World} {L : Nat → Bool} {ρ : Nat × Nat}
theorem WE12.start (h : WE2 6 7 b1 b2 p x1 y1 x2 y2 w0 (fun _ => false) w) (hs : Src w p) : WE12 b1 b2 p x1 y1 x2 y2 w0 (fun _ => false) ρ w := ⟨h, fun _ _ => hs, (fun e => by cases e), (fun e => by cases e)⟩
theorem WE12.pure (h : WE12 b1 b2 p x1 y1 x2 y2 w0 L ρ w) {i : Nat} (h0 : [3, 5, 6, 7].contains i = false) : WE12 b1 b2 p x1 y1 x2 y2 w0 (upd L i) ρ w := by
  simp at h0
  obtain ⟨h3, h5, h6, h7⟩ := h0
  refine ⟨h.we.pure (by omega) (by omega), ?_, ?_, ?_⟩
  · rw [upd_ne (Ne.symm h6), upd_ne (Ne.symm h7)]; exact h.src
  · rw [upd_ne (Ne.symm h3)]; exact h.rn
  · rw [upd_ne (Ne.symm h5)]; exact h.md
theorem WE12.call (h : WE12 b1 b2 p x1 y1 x2 y2 w0 L ρ w) (hp1 : p ≠ b1) (hp2 : p ≠ b2) (h5 : L 5 = false) (hk : Keep (· = p) w w') (hs : Src w' p) {r : Nat} (hr : 48 ≤ r ∧ r ≤ 49) : WE12 b1 b2 p x1 y1 x2 y2 w0 (upd L 3) (r, ρ.2) w' :=
  ⟨h.we.other (by omega) (by omega) hk hp1 hp2, fun _ _ => hs, fun _ => hr, by rw [upd_ne (by omega)]; intro e; rw [h5] at e; cases e⟩
theorem WE12.make (h : WE12 b1 b2 p x1 y1 x2 y2 w0 L ρ w) (hp1 : p ≠ b1) (hp2 : p ≠ b2) (hb : Below w.heap.size w w') (ha : Arr w' w.heap.size (ρ.1 * 2) ((List.replicate ρ.1 hz0).flatMap Hr.cells)) : WE12 b1 b2 p x1 y1 x2 y2 w0 (upd L 5) (ρ.1, w.heap.size) w' :=
  ⟨h.we.other (by omega) (by omega) (Keep.of_below _ hb) hp1 hp2, by rw [upd_ne (by omega), upd_ne (by omega)]; exact fun a b => (h.src a b).below hb, by rw [upd_ne (by omega)]; exact h.rn, fun _ => ⟨h.we.kp.size, ha⟩⟩
theorem WE12.st1 (h : WE12 b1 b2 p x1 y1 x2 y2 w0 L ρ w) (hb : b1 ≠ b2) (hb1 : b1 < w0.heap.size) (hk : Keep (· = b1) w w') (hx : Bx w' b1 y1) : WE12 b1 b2 p x1 y1 x2 y2 w0 (upd L 6) ρ w' := by
  refine ⟨h.we.st1 (by omega) hb hk hx, (fun e => by rw [upd_self] at e; cases e), by rw [upd_ne (by omega)]; exact h.rn, ?_⟩
  rw [upd_ne (by omega)]
  intro e
  obtain ⟨q1, q2⟩ := h.md e
  exact ⟨q1, q2.keep hk (by omega)⟩
theorem WE12.st2 (h : WE12 b1 b2 p x1 y1 x2 y2 w0 L ρ w) (hb : b1 ≠ b2) (hb2 : b2 < w0.heap.size) (hk : Keep (· = b2) w w') (hx : Bx w' b2 y2) : WE12 b1 b2 p x1 y1 x2 y2 w0 (upd L 7) ρ w' := by
  refine ⟨h.we.st2 (by omega) hb hk hx, (fun _ e => by rw [upd_self] at e; cases e), by rw [upd_ne (by omega)]; exact h.rn, ?_⟩
  rw [upd_ne (by omega)]
  intro e
  obtain ⟨q1, q2⟩ := h.md e
  exact ⟨q1, q2.keep hk (by omega)⟩
end
end Go.Proofs.Ytijhadafmhbceaa
namespace Go.Proofs.Ytijhadafmhbceaa
set_option linter.unusedVariables false
set_option linter.unusedSimpArgs false
open Go.RowKit
theorem info_HourR : (Try.prog.info? 40).map (fun i => (i.zero, i.size, i.bytes)) = some (some (.agg #[.slice none 0 0, .slice none 0 0]), 2, 48) := by kernel_rfl
/-- region 13 -/
structure WE13 (b1 b2 p : Nat) (x1 y1 x2 y2 : List Value) (w0 : World) (L : Nat → Bool) (ρ : Unit) (w : World) : Prop where
  we : WE2 3 4 b1 b2 p x1 y1 x2 y2 w0 L w
theorem WE13.pure {b1 b2 p : Nat} {x1 y1 x2 y2 : List Value} {w0 w : World} {L : Nat → Bool} {ρ : Unit} (h : WE13 b1 b2 p x1 y1 x2 y2 w0 L ρ w) {i : Nat} (h1 : 3 ≠ i) (h2 : 4 ≠ i) : WE13 b1 b2 p x1 y1 x2 y2 w0 (upd L i) ρ w := ⟨h.we.pure h1 h2⟩
theorem make_hrs (m : Nat) (hm : m ≤ 1000) (w : World) : (Instr.makeSlice 31 (.int .i64 (m : Int)) (.int .i64 (m : Int))).run Try.prog w = .ok (.slice (some ⟨w.heap.size, 0, none⟩) m m) (w.alloc (.cells (madeCells #[.slice none 0 0, .slice none 0 0] (m * 2)) 40)) := by
  have := make_rule (P := Try.prog) info_HourR Try.underlying31 m (by omega) (by omega) w
  simpa [Value.cells] using this
/-- a drawn network, buffers and hours -/
def DrewR (w : World) (e : Ending) (w' : World) : Prop :=
  ∃ (A Bq Al Ah An Ha : Option Addr) (c d cl ch cn ce : Nat) (N : Net) (ll lh ln : List Int) (ys : List Hr), e = .returned (.tuple #[netV A Bq N.nodes.length c N.pipes.length d, .agg #[.slice Al ll.length cl, .slice Ah lh.length ch, .slice An ln.length cn], .slice Ha ys.length ce]) ∧ N.nodes.length ≤ c ∧ NetAt w' A Bq N ∧ Rd w' Al (ll.map iV) ∧ Rd w' Ah (lh.map iV) ∧ Rd w' An (ln.map iV) ∧ (ll.length ≤ 8 ∧ lh.length ≤ 8 ∧ ln.length ≤ 8) ∧ Rd w' Ha (ys.flatMap Hr.cells) ∧ (∀ x ∈ ys, HrAt w' x) ∧ ys.length ≤ 49 ∧ Below w.heap.size w w'
/-- the two boxes hold the results -/
theorem drew_post {w w2 w4 w' : World} {A Bq Al Ah An Ha : Option Addr} {c d cl ch cn ce : Nat} {N : Net} {ll lh ln : List Int} {ys : List Hr} (hnc : N.nodes.length ≤ c) (hN : NetAt w2 A Bq N) (h1 : Rd w2 Al (ll.map iV)) (h2 : Rd w2 Ah (lh.map iV)) (h3 : Rd w2 An (ln.map iV))
    (hA : ∀ b off, A = some ⟨b, off, none⟩ → w.heap.size + 2 < b) (hB : ∀ b off, Bq = some ⟨b, off, none⟩ → w.heap.size + 2 < b) (ha1 : ∀ b off, Al = some ⟨b, off, none⟩ → w.heap.size + 2 < b) (ha2 : ∀ b off, Ah = some ⟨b, off, none⟩ → w.heap.size + 2 < b) (ha3 : ∀ b off, An = some ⟨b, off, none⟩ → w.heap.size + 2 < b)
    (hb2 : Below w.heap.size w w2) (hpw : w.heap.size + 2 < w2.heap.size) (hk2 : Keep (· = w.heap.size + 2) w2 w4) (hk : Keep (fun k => k = w.heap.size ∨ k = w.heap.size + 1 ∨ k = w.heap.size + 2) w4 w') (l1 : ll.length ≤ 8) (l2 : lh.length ≤ 8) (l3 : ln.length ≤ 8)
    (hr : Rd w' Ha (ys.flatMap Hr.cells)) (hx : ∀ x ∈ ys, HrAt w' x) (hl : ys.length ≤ 49) :
    DrewR w (.returned (.tuple #[netV A Bq N.nodes.length c N.pipes.length d, .agg #[.slice Al ll.length cl, .slice Ah lh.length ch, .slice An ln.length cn], .slice Ha ys.length ce])) w' := by
  have hk3 : Keep (fun k => k = w.heap.size ∨ k = w.heap.size + 1 ∨ k = w.heap.size + 2) w2 w' := (hk2.mono fun k q => .inr (.inr q)).trans hk
  exact ⟨A, Bq, Al, Ah, An, Ha, c, d, cl, ch, cn, ce, N, ll, lh, ln, ys, rfl, hnc, hN.keepC hk3 (fun b off e q => by have := hA b off e; omega) (fun b off e q => by have := hB b off e; omega), h1.keep hk3 (fun b off e q => by have := ha1 b off e; omega), h2.keep hk3 (fun b off e q => by have := ha2 b off e; omega), h3.keep hk3 (fun b off e q => by have := ha3 b off e; omega), ⟨l1, l2, l3⟩, hr, hx, hl, hk3.below hb2 (by omega) (by intro k q; omega)⟩
set_option maxRecDepth 100000 in
set_option maxHeartbeats 8000000 in
theorem spec_DrawRunHours (A0 : Option Addr) (c0 : Nat) (l0 : List Int) (w : World) (h : BytesIn w A0 l0) (hl : l0.length ≤ 4096) :
    Calls Try.prog 6 #[.slice A0 l0.length c0] w (DrewR w) := by
  have HI := Lib.hid h
  clear h
  go_enter Try.func6, Try.ntmps6
  go_wp2_with fail
  refine (spec_l01From A0 c0 l0 _ (HI.out.below (by (repeat' (first | (with_reducible exact Below.refl _ _) | (with_reducible assumption) | (with_reducible refine Below.alloc ?_ ?_ _) | (with_reducible refine Below.drew ?_) | (with_reducible refine Below.drewN' ?_ _) | (with_reducible refine Below.setCell ?_ ?_ _) | (refine Below.via ?_ (by with_reducible assumption) ?_) | (with_reducible refine Below.via ?_ (Wd.h _) ?_) | go_size)))) hl).mono ?_
  rintro e w1 ⟨rfl, hs1, hb1⟩
  have hs1 : Src w1 (w.heap.size + 2) := by simpa using hs1
  have HS1 := Lib.hid hs1
  have hp1 := hs1.lt
  clear hs1
  (obtain ⟨hcn, hfn⟩ := bcell hb1; have hz1 := hb1.size; (try simp at hz1); have Ncw0_0 := hcn (w.heap.size) (0) (by first | omega | (simp; done) | (simp; omega)); have Nfw0_0 := hfn (w.heap.size) (0) (by first | omega | (simp; done) | (simp; omega)); have Nhy0 : w.heap.size < w1.heap.size := (by omega); have Ncw0_1 := hcn (w.heap.size) (1) (by first | omega | (simp; done) | (simp; omega)); have Nfw0_1 := hfn (w.heap.size) (1) (by first | omega | (simp; done) | (simp; omega)); have Ncw1_0 := hcn (w.heap.size + 1) (0) (by first | omega | (simp; done) | (simp; omega)); have Nfw1_0 := hfn (w.heap.size + 1) (0) (by first | omega | (simp; done) | (simp; omega)); have Nhy1 : w.heap.size + 1 < w1.heap.size := (by omega); have Ncw1_1 := hcn (w.heap.size + 1) (1) (by first | omega | (simp; done) | (simp; omega)); have Nfw1_1 := hfn (w.heap.size + 1) (1) (by first | omega | (simp; done) | (simp; omega)); have Ncw1_2 := hcn (w.heap.size + 1) (2) (by first | omega | (simp; done) | (simp; omega)); have Nfw1_2 := hfn (w.heap.size + 1) (2) (by first | omega | (simp; done) | (simp; omega)); simp [go_sem] at Ncw0_0 Nfw0_0 Ncw0_1 Nfw0_1 Ncw1_0 Nfw1_0 Ncw1_1 Nfw1_1 Ncw1_2 Nfw1_2; clear hcn hfn; have cw0_0 := Ncw0_0; have fw0_0 := Nfw0_0; have cw0_1 := Ncw0_1; have fw0_1 := Nfw0_1; have cw1_0 := Ncw1_0; have fw1_0 := Nfw1_0; have cw1_1 := Ncw1_1; have fw1_1 := Nfw1_1; have cw1_2 := Ncw1_2; have fw1_2 := Nfw1_2; have hy0 := Nhy0; have hy1 := Nhy1; clear Ncw0_0 Nfw0_0 Ncw0_1 Nfw0_1 Ncw1_0 Nfw1_0 Ncw1_1 Nfw1_1 Ncw1_2 Nfw1_2 Nhy0 Nhy1)
  have X0 := Lib.hid (show Bx w1 w.heap.size [.slice none 0 0, .slice none 0 0] from bx2 hy0 cw0_0 fw0_0 cw0_1 fw0_1)
  have X1 := Lib.hid (show Bx w1 (w.heap.size + 1) [.slice none 0 0, .slice none 0 0, .slice none 0 0] from bx3 hy1 cw1_0 fw1_0 cw1_1 fw1_1 cw1_2 fw1_2)
  have HBW := Lib.hid (show Below w.heap.size w w1 by (repeat' (first | (with_reducible exact Below.refl _ _) | (with_reducible assumption) | (with_reducible refine Below.alloc ?_ ?_ _) | (with_reducible refine Below.drew ?_) | (with_reducible refine Below.drewN' ?_ _) | (with_reducible refine Below.setCell ?_ ?_ _) | (refine Below.via ?_ (by with_reducible assumption) ?_) | (with_reducible refine Below.via ?_ (Wd.h _) ?_) | go_size)))
  clear hb1 hy0 cw0_0 fw0_0 cw0_1 fw0_1 hy1 cw1_0 fw1_0 cw1_1 fw1_1 cw1_2 fw1_2
  go_wp2_with fail
  refine (spec_l19Draw (w.heap.size + 2) _ HS1.out).mono ?_
  rintro e w2 ⟨A, Bq, Al, Ah, An, Fa, Fb, c, d, cl, ch, cn, ca, cb, N, ll, lh, ln, la, lb, rfl, hnc, hN, r1, r2, r3, r4, r5, hlen, hs2, hk2, hA, hB, h1, h2, h3, h4, h5⟩
  have Y0 := Lib.hid (X0.out.keep hk2 (by omega))
  have Y1 := Lib.hid (X1.out.keep hk2 (by omega))
  have HN := Lib.hid hN
  have HR1 := Lib.hid r1
  have HR2 := Lib.hid r2
  have HR3 := Lib.hid r3
  have HR4 := Lib.hid r4
  have HR5 := Lib.hid r5
  have HS2 := Lib.hid hs2
  have HB2 := Lib.hid (show Below w.heap.size w w2 from hk2.below HBW.out (by omega) (by intro k q; omega))
  have HA := Lib.hid (show ∀ b off, A = some ⟨b, off, none⟩ → w.heap.size + 2 < b from fun b off e => by have := hA b off e; omega)
  have HB := Lib.hid (show ∀ b off, Bq = some ⟨b, off, none⟩ → w.heap.size + 2 < b from fun b off e => by have := hB b off e; omega)
  have H1 := Lib.hid (show ∀ b off, Al = some ⟨b, off, none⟩ → w.heap.size + 2 < b from fun b off e => by have := h1 b off e; omega)
  have H2 := Lib.hid (show ∀ b off, Ah = some ⟨b, off, none⟩ → w.heap.size + 2 < b from fun b off e => by have := h2 b off e; omega)
  have H3 := Lib.hid (show ∀ b off, An = some ⟨b, off, none⟩ → w.heap.size + 2 < b from fun b off e => by have := h3 b off e; omega)
  have H4 := Lib.hid (show ∀ b off, Fa = some ⟨b, off, none⟩ → w.heap.size + 2 < b from fun b off e => by have := h4 b off e; omega)
  have H5 := Lib.hid (show ∀ b off, Fb = some ⟨b, off, none⟩ → w.heap.size + 2 < b from fun b off e => by have := h5 b off e; omega)
  obtain ⟨hl1, hl2, hl3, hl4, hl5⟩ := hlen
  have hp2 := hs2.lt
  have hpw : w.heap.size + 2 < w2.heap.size := hp2
  clear hN r1 r2 r3 r4 r5 hs2 hk2 hA hB h1 h2 h3 h4 h5 X0 X1 HS1 HBW
  go_wp2_with fail
  generalize hW : World.alloc (World.alloc (World.alloc (World.alloc w2 _) _) _) _ = w3
  have HD0 := Lib.hid (show RD w w2 (w.heap.size + 2) A Bq Al Ah An Fa Fb c d cl ch cn ca cb N ll lh ln la lb (.slice (some ⟨w2.heap.size + 3, 0, none⟩) 0 0) [] w3 from by
    refine ⟨by rw [← hW]; (repeat' (first | (with_reducible exact Keep.refl _ _) | (with_reducible assumption) | (with_reducible refine Keep.alloc ?_ _) | (with_reducible refine Keep.drew ?_) | (with_reducible refine Keep.drewN ?_ _) | (refine Keep.trans ?_ (by with_reducible assumption)) | (refine Keep.via ?_ (by with_reducible assumption)) | (with_reducible refine Keep.new ?_ ?_ _) | go_size)), by rw [← hW]; exact HS2.out.below (by (repeat' (first | (with_reducible exact Below.refl _ _) | (with_reducible assumption) | (with_reducible refine Below.alloc ?_ ?_ _) | (with_reducible refine Below.drew ?_) | (with_reducible refine Below.drewN' ?_ _) | (with_reducible refine Below.setCell ?_ ?_ _) | (refine Below.via ?_ (by with_reducible assumption) ?_) | (with_reducible refine Below.via ?_ (Wd.h _) ?_) | go_size))), ?_, (fun x hx => by simp at hx), by rw [← hW]; exact bx2 (by go_size) (by simp [go_sem]) (by simp [go_sem]) (by simp [go_sem]) (by simp [go_sem]), by rw [← hW]; exact bx3 (by go_size) (by simp [go_sem]) (by simp [go_sem]) (by simp [go_sem]) (by simp [go_sem]) (by simp [go_sem]) (by simp [go_sem]), by rw [← hW]; exact bx2 (by go_size) (by simp [go_sem]) (by simp [go_sem]) (by simp [go_sem]) (by simp [go_sem])⟩
    rw [← hW]
    simpa using Own.lit0 (World.alloc (World.alloc (World.alloc w2 _) _) _) (w2.heap.size + 3) 40 2 (by simp))
  clear hW HS2
  refine (spec_l01Next (w.heap.size + 2) _ _ HD0.out.src (by omega)).mono ?_
  rintro e w4 ⟨n, rfl, na, _, nb, hs3, hk3⟩
  have nc := nb (by omega)
  have HD1 := Lib.hid (HD0.out.keep hpw hk3 hs3)
  clear hs3 hk3 nb HD0
  obtain ⟨n, rfl⟩ : ∃ k : Nat, n = k := ⟨n.toNat, by omega⟩
  go_wp2_with fail
  go_loopw [9, 10] (fun u t wr => ∃ (q : Nat) (ys : List Hr), t = .int .i64 q ∧ q + ys.length ≤ 4 ∧ RD w w2 (w.heap.size + 2) A Bq Al Ah An Fa Fb c d cl ch cn ca cb N ll lh ln la lb u ys wr) (fun _ t _ => (intOf t).toNat)
  case atStart => exact ⟨n, [], rfl, by simp; omega, HD1.out⟩
  case round =>
    clear HD1
    obtain ⟨q, ys, rfl, hq, hI⟩ := hrel
    have HD := Lib.hid hI
    have hsz := hI.sz
    have hx8 := hI.x8
    clear hI
    by_cases hlt : 0 < q
    · have g1 : (0 : Int) < q := by omega
      have hy8 := hx8.lt; have cw8_0 := hx8.cell 0 rfl; have fw8_0 := hx8.frozen 0 rfl; have cw8_1 := hx8.cell 1 rfl; have fw8_1 := hx8.frozen 1 rfl
      clear hx8
      by_cases hlb : 0 < lb.length
      · have g2 : (0 : Int) < lb.length := by omega
        go_wp2_with ((at_builtin; refine wp_appO _ rfl (.tmp 27) (.tmp 29) 28 rfl wr.heap.size info_i64 Try.underlying28 rfl (by omega) (by omega) _ 0 [] rfl (Own.lit0 wr wr.heap.size 2 1 (Nat.le_refl _)) Fb lb.length cb (lb.map iV) rfl (by simp) ((HR5.out.keep HD.out.kp (fun b off e q => by have := H5.out b off e; omega)).below (by (repeat' (first | (with_reducible exact Below.refl _ _) | (with_reducible assumption) | (with_reducible refine Below.alloc ?_ ?_ _) | (with_reducible refine Below.drew ?_) | (with_reducible refine Below.drewN' ?_ _) | (with_reducible refine Below.setCell ?_ ?_ _) | (refine Below.via ?_ (by with_reducible assumption) ?_) | (with_reducible refine Below.via ?_ (Wd.h _) ?_) | go_size)))) (iV_one lb) (by omega) (by simp) ?_; intro v5 w5 hO5 hb5; rw [Nat.zero_add, List.nil_append] at hO5; have hbz5 := Below.trans ((Below.refl wr.heap.size wr).alloc (Nat.le_refl _) _) hb5; have hz5 := hbz5.size; have HB5 := Lib.hid hbz5; have HDY := Lib.hid (HD.out.below hpw hbz5); obtain ⟨g5, c5, rfl, hg5, hnc5, ha5⟩ := hO5.arr hlb; rw [Nat.mul_one] at ha5; have HA5 := Lib.hid ha5; have hg5l := ha5.lt; clear ha5; have hx9 := HDY.out.x8; clear hO5 hb5 hbz5 cw8_0 cw8_1 fw8_0 fw8_1 hy8; have hy8 := hx9.lt; have cw8_0 := hx9.cell 0 rfl; have fw8_0 := hx9.frozen 0 rfl; have cw8_1 := hx9.cell 1 rfl; have fw8_1 := hx9.frozen 1 rfl; clear hx9))
        obtain ⟨y, hy⟩ := get_some (l := lb) (k := 0) hlb
        have HY := Lib.hid hy
        clear hy
        refine wp_region_tb (R := Int) [some 34, some 35, some 36, some 37, some 38, some 39, some 40, some 41, some 42, none] _ (by intro u; simp only [frs, Act.put, List.setIfInBounds_toArray, List.set_cons_zero, List.set_cons_succ, Nat.reduceAdd]; exact rfl) (fun ρ j => ([.slice (some ⟨g5, 0, none⟩) lb.length c5, .slice (some ⟨g5, 0, none⟩) lb.length c5, .pointer (some ⟨g5, 0, none⟩), .int .i64 y, .pointer (some ⟨w.heap.size + 2, 0, none⟩), .int .i64 ρ, .int .i64 (IntKind.i64.wrap (y + ρ)), .int .i64 (IntKind.i64.wrap (IntKind.i64.wrap (y + ρ) - 4)), .pointer (some ⟨g5, 0, none⟩), undef] : List Value).getD j undef) (WR9 (w.heap.size + 2) g5 lb.length lb y w5) (by kernel_rfl) (by kernel_rfl) 0 (WR9.start (Keep.drew (Keep.refl _ _)) (HDY.out.src.below (Below.drew (Below.refl _ _))) HA5.out.drew) ?_ ?_
        · intro ii hii L ρ u wx hl hp hc hu hn hW
          have hii : ii < 10 := hii
          have HNo := Lib.hid hn
          clear hn
          have hii : ii = 0 ∨ ii = 1 ∨ ii = 2 ∨ ii = 3 ∨ ii = 4 ∨ ii = 5 ∨ ii = 6 ∨ ii = 7 ∨ ii = 8 ∨ ii = 9 := by omega
          rcases hii with rfl | rfl | rfl | rfl | rfl | rfl | rfl | rfl | rfl | rfl
          · refine wpOp_go (E := True) rfl rfl (fun K' hK => ?_)
            go_simp
            refine hK.out _ _ ⟨ρ, (by simp only [put]; rfl), fun _ _ => rfl, hW.pure (by omega)⟩
          · refine wpOp_go (E := True) rfl rfl (fun K' hK => ?_)
            go_simp
            refine hK.out _ _ ⟨ρ, (by simp only [put]; rfl), fun _ _ => rfl, hW.pure (by omega)⟩
          · have e1 : u 1 = .slice (some ⟨g5, 0, none⟩) lb.length c5 := hu 1 (all_of hp (by kernel_rfl))
            refine wpOp_go (E := True) rfl rfl (fun K' hK => ?_)
            go_simp
            refine hK.out _ _ ⟨ρ, (by simp only [put, e1]; rfl), fun _ _ => rfl, hW.pure (by omega)⟩
          · have e2 : u 2 = .pointer (some ⟨g5, 0, none⟩) := hu 2 (all_of hp (by kernel_rfl))
            have nks : L 9 = false := no_later hc hl (by kernel_rfl)
            have t0 := ints_cell (hW.a0 nks) HY.out
            refine wpOp_go (E := True) rfl rfl (fun K' hK => ?_)
            go_simp
            refine hK.out _ _ ⟨ρ, (by simp only [put, e2]; rfl), fun _ _ => rfl, hW.pure (by omega)⟩
          · refine wpOp_go (E := True) rfl rfl (fun K' hK => ?_)
            go_simp
            refine hK.out _ _ ⟨ρ, (by simp only [put]; rfl), fun _ _ => rfl, hW.pure (by omega)⟩
          · have e4 : u 4 = .pointer (some ⟨w.heap.size + 2, 0, none⟩) := hu 4 (all_of hp (by kernel_rfl))
            have nks : L 9 = false := no_later hc hl (by kernel_rfl)
            refine wpOp_go (E := True) rfl rfl (fun K' hK => ?_)
            go_simp
            refine (spec_l01Next (w.heap.size + 2) _ _ hW.src (by omega)).mono ?_
            rintro e' w6 ⟨r, rfl, ra, _, rb, hs6, hk6⟩
            refine hK.out _ _ ⟨r, (by simp only [put, e4]; rfl), fun j hj => by
                have n6 : L 6 = false := no_later hc hl (by kernel_rfl)
                have n7 : L 7 = false := no_later hc n6 (by kernel_rfl)
                have n9 : L 9 = false := no_later hc n7 (by kernel_rfl)
                match j, hj with
                | 0, _ => rfl
                | 1, _ => rfl
                | 2, _ => rfl
                | 3, _ => rfl
                | 4, _ => rfl
                | 5, hj => rw [hl] at hj; cases hj
                | 6, hj => rw [n6] at hj; cases hj
                | 7, hj => rw [n7] at hj; cases hj
                | 8, _ => rfl
                | 9, hj => rw [n9] at hj; cases hj
                | _ + 10, _ => rfl, hW.call (by omega) nks hk6 hs6⟩
          · have e3 : u 3 = .int .i64 y := hu 3 (all_of hp (by kernel_rfl))
            have e5 : u 5 = .int .i64 ρ := hu 5 (all_of hp (by kernel_rfl))
            refine wpOp_go (E := True) rfl rfl (fun K' hK => ?_)
            go_simp
            refine hK.out _ _ ⟨ρ, (by simp only [put, e3, e5]; rfl), fun _ _ => rfl, hW.pure (by omega)⟩
          · have e6 : u 6 = .int .i64 (IntKind.i64.wrap (y + ρ)) := hu 6 (all_of hp (by kernel_rfl))
            refine wpOp_go (E := True) rfl rfl (fun K' hK => ?_)
            go_simp
            refine hK.out _ _ ⟨ρ, (by simp only [put, e6]; rfl), fun _ _ => rfl, hW.pure (by omega)⟩
          · have e0 : u 0 = .slice (some ⟨g5, 0, none⟩) lb.length c5 := hu 0 (all_of hp (by kernel_rfl))
            refine wpOp_go (E := True) rfl rfl (fun K' hK => ?_)
            go_simp
            refine hK.out _ _ ⟨ρ, (by simp only [put, e0]; rfl), fun _ _ => rfl, hW.pure (by omega)⟩
          · have e8 : u 8 = .pointer (some ⟨g5, 0, none⟩) := hu 8 (all_of hp (by kernel_rfl))
            have e7 : u 7 = .int .i64 (IntKind.i64.wrap (IntKind.i64.wrap (y + ρ) - 4)) := hu 7 (all_of hp (by kernel_rfl))
            have t0 := ints_cell (hW.a0 hl) HY.out
            have t1 := (hW.a0 hl).free hlb
            refine wpOp_go (E := True) rfl rfl (fun K' hK => ?_)
            go_simp
            refine hK.out _ _ ⟨ρ, (by simp only [put, e8, e7]; rfl), fun _ _ => rfl, hW.store (by omega) hl hlb⟩
        · intro L ρ u wx hall hu hW
          have hkp := hW.kp
          have hk6 : Keep (· = w.heap.size + 2) wr wx := ⟨hkp.os.trans HB5.out.os, hkp.tape.trans HB5.out.tape, hkp.output.trans HB5.out.output, Nat.le_trans HB5.out.size hkp.size, fun k h1 h2 => (hkp.block k (by omega) (by omega)).trans (HB5.out.block k h1)⟩
          have ha6 := hW.a1 (hall 9 (by show 9 < 10; omega))
          have HD6 := Lib.hid (HD.out.keep hpw hk6 hW.src)
          have HSY := Lib.hid (show Rd wx (some ⟨g5, 0, none⟩) ((lb.set 0 (IntKind.i64.wrap (IntKind.i64.wrap (y + ρ) - 4))).map iV) ∧ ∀ k, onA (some ⟨g5, 0, none⟩) k → wr.heap.size ≤ k ∧ k < wx.heap.size from ⟨ha6.rd, fun k q => by rw [onA_some] at q; subst q; exact ⟨hg5, ha6.lt⟩⟩)
          have hz6 := hk6.size
          generalize IntKind.i64.wrap (IntKind.i64.wrap (y + ρ) - 4) = zz at *
          clear hu hall hW hkp hk6 ha6 HA5 HDY cw8_0 cw8_1 fw8_0 fw8_1 hy8 HY
          have hx9 := HD6.out.x8
          have hy8 := hx9.lt; have cw8_0 := hx9.cell 0 rfl; have fw8_0 := hx9.frozen 0 rfl; have cw8_1 := hx9.cell 1 rfl; have fw8_1 := hx9.frozen 1 rfl
          clear hx9
          obtain ⟨B5, hB5⟩ : ∃ B5 : Option Addr, some (⟨g5, 0, none⟩ : Addr) = B5 := ⟨_, rfl⟩
          rw [hB5]
          have HSY := Lib.hid (hB5 ▸ HSY.out)
          clear hB5
          go_wp2_with (first | (at_builtin; refine wp_appO _ rfl (.tmp 44) (.tmp 46) 28 rfl wx.heap.size info_i64 Try.underlying28 rfl (by omega) (by omega) _ 0 [] rfl (Own.lit0 wx wx.heap.size 2 1 (Nat.le_refl _)) Fa la.length ca (la.map iV) rfl (by simp) ((HR4.out.keep HD6.out.kp (fun b off e q => by have := H4.out b off e; omega)).below (by (repeat' (first | (with_reducible exact Below.refl _ _) | (with_reducible assumption) | (with_reducible refine Below.alloc ?_ ?_ _) | (with_reducible refine Below.drew ?_) | (with_reducible refine Below.drewN' ?_ _) | (with_reducible refine Below.setCell ?_ ?_ _) | (refine Below.via ?_ (by with_reducible assumption) ?_) | (with_reducible refine Below.via ?_ (Wd.h _) ?_) | go_size)))) (iV_one la) (by omega) (by simp) ?_; intro v7 w7 hO7 hb7; rw [Nat.zero_add, List.nil_append] at hO7; obtain ⟨B7, c7, rfl, hnc7, hw7⟩ := hO7.lt_; have HW7 := Lib.hid hw7; have hbz7 := Below.trans ((Below.refl wx.heap.size wx).alloc (Nat.le_refl _) _) hb7; have HD7 := Lib.hid (HD6.out.below hpw hbz7); have HS7 := Lib.hid (And.intro (HSY.out.1.below hbz7) hbz7.size); have hz7 := hbz7.size; clear hO7 hb7 hbz7 hw7) | (at_builtin; refine wp_app1x _ rfl (.tmp 43) (.tmp 50) 31 rfl (w2.heap.size + 3) info_HourR Try.underlying31 rfl (by omega) (by omega) _ _ _ rfl (HD7.out.o.alloc _) _ 1 1 (Hr.cells ⟨B7, B5, c7, c5, la, lb.set 0 zz⟩) rfl rfl (by intro j u hu; match j, hu with | 0, hu => (simp [Hr.cells] at hu; subst hu; simp) | 1, hu => (simp [Hr.cells] at hu; subst hu; simp) | j + 2, hu => simp [Hr.cells] at hu) (by simp [Hr.cells, Value.oneCell']) (by omega) (by omega) (by have := HD7.out.sz; simp; omega) ?_; intro v8 w8 hO8 hb8 hF8; obtain ⟨B8, c8, rfl, -, -, -⟩ := hO8.val; have HD8 := Lib.hid (HD7.out.app hpw (x := ⟨B7, B5, c7, c5, la, lb.set 0 zz⟩) ⟨HW7.out.rd, HS7.out.1, by dsimp only; omega, by simp; omega⟩ (fun k q => by have hlo := World.ownsRow.lt HD.out.o k; have hs7 := HS7.out.2; rcases q with q | q; · { have h8 := HW7.out.lo k q; have h9 := HW7.out.hi k q; exact ⟨by omega, h9, fun z => by have := hlo z; omega⟩ }; · { have h8 := HSY.out.2 k q; exact ⟨by omega, by omega, fun z => by have := hlo z; omega⟩ }) hO8 hb8 hF8); clear hO8 hb8 hF8))
          go_roundw
          case rel => exact ⟨q - 1, ys ++ [⟨B7, B5, c7, c5, la, lb.set 0 zz⟩], by go_num, by simp; omega, HD8.out⟩
          case measure => simp [intOf]; omega
      · have g2 : ¬ (0 : Int) < lb.length := by omega
        go_wp2_with (first | (at_builtin; refine wp_appO _ rfl (.tmp 27) (.tmp 29) 28 rfl wr.heap.size info_i64 Try.underlying28 rfl (by omega) (by omega) _ 0 [] rfl (Own.lit0 wr wr.heap.size 2 1 (Nat.le_refl _)) Fb lb.length cb (lb.map iV) rfl (by simp) ((HR5.out.keep HD.out.kp (fun b off e q => by have := H5.out b off e; omega)).below (by (repeat' (first | (with_reducible exact Below.refl _ _) | (with_reducible assumption) | (with_reducible refine Below.alloc ?_ ?_ _) | (with_reducible refine Below.drew ?_) | (with_reducible refine Below.drewN' ?_ _) | (with_reducible refine Below.setCell ?_ ?_ _) | (refine Below.via ?_ (by with_reducible assumption) ?_) | (with_reducible refine Below.via ?_ (Wd.h _) ?_) | go_size)))) (iV_one lb) (by omega) (by simp) ?_; intro v5 w5 hO5 hb5; rw [Nat.zero_add, List.nil_append] at hO5; have hbz5 := Below.trans ((Below.refl wr.heap.size wr).alloc (Nat.le_refl _) _) hb5; have hz5 := hbz5.size; have HB5 := Lib.hid hbz5; have HDY := Lib.hid (HD.out.below hpw hbz5); obtain ⟨B5, c5, rfl, hnc5, hw5⟩ := hO5.lt_; have HSY := Lib.hid (And.intro hw5.rd (fun k q => And.intro (hw5.lo k q) (hw5.hi k q))); clear hw5; have hx9 := HDY.out.x8; clear hO5 hb5 hbz5 cw8_0 cw8_1 fw8_0 fw8_1 hy8; have hy8 := hx9.lt; have cw8_0 := hx9.cell 0 rfl; have fw8_0 := hx9.frozen 0 rfl; have cw8_1 := hx9.cell 1 rfl; have fw8_1 := hx9.frozen 1 rfl; clear hx9) | (at_builtin; refine wp_appO _ rfl (.tmp 44) (.tmp 46) 28 rfl w5.heap.size info_i64 Try.underlying28 rfl (by omega) (by omega) _ 0 [] rfl (Own.lit0 w5 w5.heap.size 2 1 (Nat.le_refl _)) Fa la.length ca (la.map iV) rfl (by simp) ((HR4.out.keep HDY.out.kp (fun b off e q => by have := H4.out b off e; omega)).below (by (repeat' (first | (with_reducible exact Below.refl _ _) | (with_reducible assumption) | (with_reducible refine Below.alloc ?_ ?_ _) | (with_reducible refine Below.drew ?_) | (with_reducible refine Below.drewN' ?_ _) | (with_reducible refine Below.setCell ?_ ?_ _) | (refine Below.via ?_ (by with_reducible assumption) ?_) | (with_reducible refine Below.via ?_ (Wd.h _) ?_) | go_size)))) (iV_one la) (by omega) (by simp) ?_; intro v7 w7 hO7 hb7; rw [Nat.zero_add, List.nil_append] at hO7; obtain ⟨B7, c7, rfl, hnc7, hw7⟩ := hO7.lt_; have HW7 := Lib.hid hw7; have hbz7 := Below.trans ((Below.refl w5.heap.size w5).alloc (Nat.le_refl _) _) hb7; have HD7 := Lib.hid (HDY.out.below hpw hbz7); have HS7 := Lib.hid (And.intro (HSY.out.1.below hbz7) hbz7.size); have hz7 := hbz7.size; clear hO7 hb7 hbz7 hw7) | (at_builtin; refine wp_app1x _ rfl (.tmp 43) (.tmp 50) 31 rfl (w2.heap.size + 3) info_HourR Try.underlying31 rfl (by omega) (by omega) _ _ _ rfl (HD7.out.o.alloc _) _ 1 1 (Hr.cells ⟨B7, B5, c7, c5, la, lb⟩) rfl rfl (by intro j u hu; match j, hu with | 0, hu => (simp [Hr.cells] at hu; subst hu; simp) | 1, hu => (simp [Hr.cells] at hu; subst hu; simp) | j + 2, hu => simp [Hr.cells] at hu) (by simp [Hr.cells, Value.oneCell']) (by omega) (by omega) (by have := HD7.out.sz; simp; omega) ?_; intro v8 w8 hO8 hb8 hF8; obtain ⟨B8, c8, rfl, -, -, -⟩ := hO8.val; have HD8 := Lib.hid (HD7.out.app hpw (x := ⟨B7, B5, c7, c5, la, lb⟩) ⟨HW7.out.rd, HS7.out.1, by dsimp only; omega, by simp; omega⟩ (fun k q => by have hlo := World.ownsRow.lt HD.out.o k; have hs7 := HS7.out.2; rcases q with q | q; · { have h8 := HW7.out.lo k q; have h9 := HW7.out.hi k q; exact ⟨by omega, h9, fun z => by have := hlo z; omega⟩ }; · { have h8 := HSY.out.2 k q; exact ⟨by omega, by omega, fun z => by have := hlo z; omega⟩ }) hO8 hb8 hF8); clear hO8 hb8 hF8))
        go_roundw
        case rel => exact ⟨q - 1, ys ++ [⟨B7, B5, c7, c5, la, lb⟩], by go_num, by simp; omega, HD8.out⟩
        case measure => simp [intOf]; omega
    · have g1 : ¬ (0 : Int) < q := by omega
      clear hx8
      obtain ⟨Ha, ce, rfl, -, hrH, -⟩ := HD.out.o.val
      clear hrH
      go_wp2_with fail
      refine (spec_l01Next (w.heap.size + 2) _ _ HD.out.src (by omega)).mono ?_
      rintro e w4 ⟨z, rfl, za, _, zb, hs4, hk4⟩
      have HD4 := Lib.hid (HD.out.keep hpw hk4 hs4)
      have hz4 := HD4.out.kp.size
      clear hs4 hk4 zb HD
      by_cases e0 : z = 0
      · subst e0
        go_wp2_with fail
        refine wp_region_tb (R := Nat × Nat) [some 55, some 56, some 57, some 58, some 59, some 60, none, none, some 4] _ (by intro u; simp only [frs, Act.put, List.setIfInBounds_toArray, List.set_cons_zero, List.set_cons_succ, Nat.reduceAdd]; exact rfl) (fun ρ j => ([.agg #[.slice A N.nodes.length c, .slice Bq N.pipes.length d], .agg #[.slice Al ll.length cl, .slice Ah lh.length ch, .slice An ln.length cn], .pointer (some ⟨w.heap.size + 2, 0, none⟩), .int .i64 ((ρ.1 : Int) - 48), .int .i64 (ρ.1 : Int), .slice (some ⟨ρ.2, 0, none⟩) ρ.1 ρ.1, undef, undef, .slice (some ⟨ρ.2, 0, none⟩) ρ.1 ρ.1] : List Value).getD j undef) (WE12 w.heap.size (w.heap.size + 1) (w.heap.size + 2) [.slice none 0 0, .slice none 0 0] [.slice A N.nodes.length c, .slice Bq N.pipes.length d] [.slice none 0 0, .slice none 0 0, .slice none 0 0] [.slice Al ll.length cl, .slice Ah lh.length ch, .slice An ln.length cn] w4) (by kernel_rfl) (by kernel_rfl) (0, 0) (WE12.start (WE2.start (Keep.drew (Keep.refl _ _)) ((Y0.out.keep HD4.out.kp (by omega)).below (Below.drew (Below.refl w4.heap.size w4)) (by omega)) ((Y1.out.keep HD4.out.kp (by omega)).below (Below.drew (Below.refl w4.heap.size w4)) (by omega))) (HD4.out.src.below (Below.drew (Below.refl _ _)))) ?_ ?_
        · intro ii hii L ρ u wx hl hp hc hu hn hW
          have hii : ii < 9 := hii
          have HNo := Lib.hid hn
          clear hn
          have hb6 := HD4.out.x6.keep hW.we.kp (by omega)
          have hb7 := HD4.out.x7.keep hW.we.kp (by omega)
          have z60 := hb6.cell 0 rfl
          have z61 := hb6.cell 1 rfl
          have z70 := hb7.cell 0 rfl
          have z71 := hb7.cell 1 rfl
          have z72 := hb7.cell 2 rfl
          have hii : ii = 0 ∨ ii = 1 ∨ ii = 2 ∨ ii = 3 ∨ ii = 4 ∨ ii = 5 ∨ ii = 6 ∨ ii = 7 ∨ ii = 8 := by omega
          rcases hii with rfl | rfl | rfl | rfl | rfl | rfl | rfl | rfl | rfl
          · refine wpOp_go (E := True) rfl rfl (fun K' hK => ?_)
            go_simp
            refine hK.out _ _ ⟨ρ, (by simp only [put]; rfl), fun _ _ => rfl, hW.pure rfl⟩
          · refine wpOp_go (E := True) rfl rfl (fun K' hK => ?_)
            go_simp
            refine hK.out _ _ ⟨ρ, (by simp only [put]; rfl), fun _ _ => rfl, hW.pure rfl⟩
          · refine wpOp_go (E := True) rfl rfl (fun K' hK => ?_)
            go_simp
            refine hK.out _ _ ⟨ρ, (by simp only [put]; rfl), fun _ _ => rfl, hW.pure rfl⟩
          · have e2 : u 2 = .pointer (some ⟨w.heap.size + 2, 0, none⟩) := hu 2 (all_of hp (by kernel_rfl))
            have n4 : L 4 = false := no_later hc hl (by kernel_rfl)
            have n5 : L 5 = false := no_later hc n4 (by kernel_rfl)
            have n6 : L 6 = false := no_later hc hl (by kernel_rfl)
            have n7 : L 7 = false := no_later hc n6 (by kernel_rfl)
            have HSR := Lib.hid (hW.src n6 n7)
            refine wpOp_go (E := True) rfl rfl (fun K' hK => ?_)
            go_simp
            refine (spec_l01Next (w.heap.size + 2) _ _ HSR.out (by omega)).mono ?_
            rintro e' w6 ⟨r, rfl, ra, _, rb, hs6, hk6⟩
            have rc := rb (by omega)
            obtain ⟨m, hm⟩ : ∃ m : Nat, r = (m : Int) - 48 := ⟨(48 + r).toNat, by omega⟩
            subst hm
            refine hK.out _ _ ⟨(m, ρ.2), (by simp only [put, e2]; rfl), fun j hj => by
                have n4 : L 4 = false := no_later hc hl (by kernel_rfl)
                have n5 : L 5 = false := no_later hc n4 (by kernel_rfl)
                have n8 : L 8 = false := no_later hc n5 (by kernel_rfl)
                match j, hj with
                | 0, _ => rfl
                | 1, _ => rfl
                | 2, _ => rfl
                | 3, hj => rw [hl] at hj; cases hj
                | 4, hj => rw [n4] at hj; cases hj
                | 5, hj => rw [n5] at hj; cases hj
                | 6, _ => rfl
                | 7, _ => rfl
                | 8, hj => rw [n8] at hj; cases hj
                | _ + 9, _ => rfl, hW.call (by omega) (by omega) n5 hk6 hs6 (by omega)⟩
          · have e3 : u 3 = .int .i64 ((ρ.1 : Int) - 48) := hu 3 (all_of hp (by kernel_rfl))
            have hrn := hW.rn (all_of hp (show (before _ 4).contains 3 = true by kernel_rfl))
            have q6 : IntKind.i64.wrap (ρ.1 : Int) = (ρ.1 : Int) := IntWalk.i64_in _ (by omega)
            have q5 : (48 : Int) + ((ρ.1 : Int) - 48) = (ρ.1 : Int) := by omega
            refine wpOp_go (E := True) rfl rfl (fun K' hK => ?_)
            go_simp
            refine hK.out _ _ ⟨ρ, (by simp only [put, e3, q5, q6]; rfl), fun _ _ => rfl, hW.pure rfl⟩
          · have e4 : u 4 = .int .i64 (ρ.1 : Int) := hu 4 (all_of hp (by kernel_rfl))
            have hrn := hW.rn (all_of (hc 4 (all_of hp (show (before _ 5).contains 4 = true by kernel_rfl))) (show (before _ 4).contains 3 = true by kernel_rfl))
            have hmk := make_hrs ρ.1 (by omega)
            refine wpOp_go (E := True) rfl rfl (fun K' hK => ?_)
            go_simp
            have ho5 := made_hr wx ρ.1
            generalize hW5 : World.alloc wx _ = w5 at *
            have hb5 : Below wx.heap.size wx w5 := by rw [← hW5]; (repeat' (first | (with_reducible exact Below.refl _ _) | (with_reducible assumption) | (with_reducible refine Below.alloc ?_ ?_ _) | (with_reducible refine Below.drew ?_) | (with_reducible refine Below.drewN' ?_ _) | (with_reducible refine Below.setCell ?_ ?_ _) | (refine Below.via ?_ (by with_reducible assumption) ?_) | (with_reducible refine Below.via ?_ (Wd.h _) ?_) | go_size))
            clear hW5
            refine hK.out _ _ ⟨(ρ.1, wx.heap.size), (by simp only [put, e4]; rfl), fun j hj => by
                have n8 : L 8 = false := no_later hc hl (by kernel_rfl)
                match j, hj with
                | 0, _ => rfl
                | 1, _ => rfl
                | 2, _ => rfl
                | 3, _ => rfl
                | 4, _ => rfl
                | 5, hj => rw [hl] at hj; cases hj
                | 6, _ => rfl
                | 7, _ => rfl
                | 8, hj => rw [n8] at hj; cases hj
                | _ + 9, _ => rfl, hW.make (by omega) (by omega) hb5 ho5⟩
          · have e0 : u 0 = .agg #[.slice A N.nodes.length c, .slice Bq N.pipes.length d] := hu 0 (all_of hp (by kernel_rfl))
            have hq := hW.we.a0 hl
            have hq0 := hq.cell 0 rfl
            have hq1 := hq.cell 1 rfl
            have hf0 := hq.frozen 0 rfl
            have hf1 := hq.frozen 1 rfl
            refine wpOp_go (E := True) rfl rfl (fun K' hK => ?_)
            go_simp
            refine hK.out _ _ ⟨ρ, (by simp only [put, e0]; rfl), fun _ _ => rfl, hW.st1 (by omega) (by omega) (keep2R _ _) (bx_fill2R hq _ _)⟩
          · have e1 : u 1 = .agg #[.slice Al ll.length cl, .slice Ah lh.length ch, .slice An ln.length cn] := hu 1 (all_of hp (by kernel_rfl))
            have hq := hW.we.c0 hl
            have hq0 := hq.cell 0 rfl
            have hq1 := hq.cell 1 rfl
            have hq2 := hq.cell 2 rfl
            have hf0 := hq.frozen 0 rfl
            have hf1 := hq.frozen 1 rfl
            have hf2 := hq.frozen 2 rfl
            refine wpOp_go (E := True) rfl rfl (fun K' hK => ?_)
            go_simp
            refine hK.out _ _ ⟨ρ, (by simp only [put, e1]; rfl), fun _ _ => rfl, hW.st2 (by omega) (by omega) (keep3 _ _ _) (bx_fill3 hq _ _ _)⟩
          · have e5 : u 5 = .slice (some ⟨ρ.2, 0, none⟩) ρ.1 ρ.1 := hu 5 (all_of hp (by kernel_rfl))
            refine wpOp_go (E := True) rfl rfl (fun K' hK => ?_)
            go_simp
            refine hK.out _ _ ⟨ρ, (by simp only [put, e5]; rfl), fun _ _ => rfl, hW.pure rfl⟩
        · intro L ρ u wx hall hu hW
          have hx0 := hW.we.a1 (hall 6 (by show 6 < 9; omega))
          have hx1 := hW.we.c1 (hall 7 (by show 7 < 9; omega))
          have k0 := hx0.cell 0 rfl
          have k1 := hx0.cell 1 rfl
          have k2 := hx1.cell 0 rfl
          have k3 := hx1.cell 1 rfl
          have k4 := hx1.cell 2 rfl
          have e8 : u 8 = .slice (some ⟨ρ.2, 0, none⟩) ρ.1 ρ.1 := hu 8 (by show 8 < 9; omega)
          rw [e8]
          have hkp := hW.we.kp
          have hrn := hW.rn (hall 3 (by show 3 < 9; omega))
          obtain ⟨hg, hmd⟩ := hW.md (hall 5 (by show 5 < 9; omega))
          have hrH' := hmd.rd
          have hat' : ∀ x ∈ List.replicate ρ.1 hz0, HrAt wx x := fun x hx => by rw [List.eq_of_mem_replicate hx]; exact ⟨Rd.nil, Rd.nil, by simp, by simp⟩
          have hpost := drew_post (d := d) (Ha := some ⟨ρ.2, 0, none⟩) (ce := ρ.1) (cl := cl) (ch := ch) (cn := cn) hnc HN.out HR1.out HR2.out HR3.out HA.out HB.out H1.out H2.out H3.out HB2.out hpw HD4.out.kp (hkp.mono fun k q => q) hl1 hl2 hl3 hrH' hat' (by simp; omega)
          rw [List.length_replicate] at hpost
          generalize ρ.1 = m1 at *
          generalize ρ.2 = g1 at *
          clear hu hall hW hmd hrH' hat' hrn hx0 hx1
          go_wp2
          refine bodyPost_ret (v := .tuple #[netV A Bq N.nodes.length c N.pipes.length d, .agg #[.slice Al ll.length cl, .slice Ah lh.length ch, .slice An ln.length cn], .slice (some ⟨g1, 0, none⟩) m1 m1]) (by simp [results, Try.results6, go_sem, k0, k1, k2, k3, k4]; try rfl) rfl ?_
          exact hpost
      · have b0 : (z == 0) = false := by simpa using e0
        go_wp2_with fail
        refine wp_region_tb (R := Unit) [some 61, some 62, some 63, none, none, some 4] _ (by intro u; simp only [frs, Act.put, List.setIfInBounds_toArray, List.set_cons_zero, List.set_cons_succ, Nat.reduceAdd]; exact rfl) (fun ρ j => ([.agg #[.slice A N.nodes.length c, .slice Bq N.pipes.length d], .agg #[.slice Al ll.length cl, .slice Ah lh.length ch, .slice An ln.length cn], .slice Ha ys.length ce, undef, undef, .slice Ha ys.length ce] : List Value).getD j undef) (WE13 w.heap.size (w.heap.size + 1) (w.heap.size + 2) [.slice none 0 0, .slice none 0 0] [.slice A N.nodes.length c, .slice Bq N.pipes.length d] [.slice none 0 0, .slice none 0 0, .slice none 0 0] [.slice Al ll.length cl, .slice Ah lh.length ch, .slice An ln.length cn] w4) (by kernel_rfl) (by kernel_rfl) () ⟨WE2.start (Keep.drew (Keep.refl _ _)) ((Y0.out.keep HD4.out.kp (by omega)).below (Below.drew (Below.refl w4.heap.size w4)) (by omega)) ((Y1.out.keep HD4.out.kp (by omega)).below (Below.drew (Below.refl w4.heap.size w4)) (by omega))⟩ ?_ ?_
        · intro ii hii L ρ u wx hl hp hc hu hn hW
          have hii : ii < 6 := hii
          have HNo := Lib.hid hn
          clear hn
          have hb6 := HD4.out.x6.keep hW.we.kp (by omega)
          have hb7 := HD4.out.x7.keep hW.we.kp (by omega)
          have z60 := hb6.cell 0 rfl
          have z61 := hb6.cell 1 rfl
          have z70 := hb7.cell 0 rfl
          have z71 := hb7.cell 1 rfl
          have z72 := hb7.cell 2 rfl
          have hii : ii = 0 ∨ ii = 1 ∨ ii = 2 ∨ ii = 3 ∨ ii = 4 ∨ ii = 5 := by omega
          rcases hii with rfl | rfl | rfl | rfl | rfl | rfl
          · refine wpOp_go (E := True) rfl rfl (fun K' hK => ?_)
            go_simp
            refine hK.out _ _ ⟨ρ, (by simp only [put]; rfl), fun _ _ => rfl, hW.pure (by omega) (by omega)⟩
          · refine wpOp_go (E := True) rfl rfl (fun K' hK => ?_)
            go_simp
            refine hK.out _ _ ⟨ρ, (by simp only [put]; rfl), fun _ _ => rfl, hW.pure (by omega) (by omega)⟩
          · refine wpOp_go (E := True) rfl rfl (fun K' hK => ?_)
            go_simp
            refine hK.out _ _ ⟨ρ, (by simp only [put]; rfl), fun _ _ => rfl, hW.pure (by omega) (by omega)⟩
          · have e0 : u 0 = .agg #[.slice A N.nodes.length c, .slice Bq N.pipes.length d] := hu 0 (all_of hp (by kernel_rfl))
            have hq := hW.we.a0 hl
            have hq0 := hq.cell 0 rfl
            have hq1 := hq.cell 1 rfl
            have hf0 := hq.frozen 0 rfl
            have hf1 := hq.frozen 1 rfl
            refine wpOp_go (E := True) rfl rfl (fun K' hK => ?_)
            go_simp
            refine hK.out _ _ ⟨ρ, (by simp only [put, e0]; rfl), fun _ _ => rfl, ⟨hW.we.st1 (by omega) (by omega) (keep2R _ _) (bx_fill2R hq _ _)⟩⟩
          · have e1 : u 1 = .agg #[.slice Al ll.length cl, .slice Ah lh.length ch, .slice An ln.length cn] := hu 1 (all_of hp (by kernel_rfl))
            have hq := hW.we.c0 hl
            have hq0 := hq.cell 0 rfl
            have hq1 := hq.cell 1 rfl
            have hq2 := hq.cell 2 rfl
            have hf0 := hq.frozen 0 rfl
            have hf1 := hq.frozen 1 rfl
            have hf2 := hq.frozen 2 rfl
            refine wpOp_go (E := True) rfl rfl (fun K' hK => ?_)
            go_simp
            refine hK.out _ _ ⟨ρ, (by simp only [put, e1]; rfl), fun _ _ => rfl, ⟨hW.we.st2 (by omega) (by omega) (keep3 _ _ _) (bx_fill3 hq _ _ _)⟩⟩
          · have e2 : u 2 = .slice Ha ys.length ce := hu 2 (all_of hp (by kernel_rfl))
            refine wpOp_go (E := True) rfl rfl (fun K' hK => ?_)
            go_simp
            refine hK.out _ _ ⟨ρ, (by simp only [put, e2]; rfl), fun _ _ => rfl, hW.pure (by omega) (by omega)⟩
        · intro L ρ u wx hall hu hW
          have hx0 := hW.we.a1 (hall 3 (by show 3 < 6; omega))
          have hx1 := hW.we.c1 (hall 4 (by show 4 < 6; omega))
          have k0 := hx0.cell 0 rfl
          have k1 := hx0.cell 1 rfl
          have k2 := hx1.cell 0 rfl
          have k3 := hx1.cell 1 rfl
          have k4 := hx1.cell 2 rfl
          have e5 : u 5 = .slice Ha ys.length ce := hu 5 (by show 5 < 6; omega)
          rw [e5]
          have hkp := hW.we.kp
          have hrH := HD4.out.o.rdv.1
          have hrH' := hrH.keep hkp (fun b off e q => by have := World.ownsRow.lt HD4.out.o b (by rw [e]; rfl); omega)
          have hat' : ∀ x ∈ ys, HrAt wx x := fun x hx => (HD4.out.hs x hx).1.keepR hkp (fun k q z => by have := (HD4.out.hs x hx).2 k q; omega)
          go_wp2
          refine bodyPost_ret (v := .tuple #[netV A Bq N.nodes.length c N.pipes.length d, .agg #[.slice Al ll.length cl, .slice Ah lh.length ch, .slice An ln.length cn], .slice Ha ys.length ce]) (by simp [results, Try.results6, go_sem, k0, k1, k2, k3, k4]; try rfl) rfl ?_
          exact drew_post hnc HN.out HR1.out HR2.out HR3.out HA.out HB.out H1.out H2.out H3.out HB2.out hpw HD4.out.kp (hkp.mono fun k q => q) hl1 hl2 hl3 hrH' hat' (by omega)
end Go.Proofs.Ytijhadafmhbceaa
