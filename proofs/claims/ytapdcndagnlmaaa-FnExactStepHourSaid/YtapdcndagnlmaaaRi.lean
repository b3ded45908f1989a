/- The invariant of the drawn regions of StepHour's law: conversions, the call, the box of the result (by the operations' numbers). -/
import Derived.Test.YtapdcndagnlmaaaSh1
import Derived.Test.YtapdcndagnlmaaaLBuf
import Derived.Test.YtapdcndagnlmaaaLHour
import Derived.Test.YtapdcndagnlmaaaLNet
namespace Go.Proofs.Ytapdcndagnlmaaa
set_option linter.unusedVariables false
set_option linter.unusedSimpArgs false
open Go.RowKit
structure RD where
  u : Nat → Value
  g : Nat
  G1 : Option Addr
  G2 : Option Addr
  G3 : Option Addr
  c1 : Nat
  c2 : Nat
  c3 : Nat
def RD.put (D : RD) (t : Nat) (v : Value) : RD := { D with u := fun j => if j = t then v else D.u j }
def RD.boxed (D : RD) (v : Value) (g : Nat) : RD := { D with u := fun j => if j = 10 then v else D.u j, g := g }
def RD.made (D : RD) (v : Value) (G1 G2 G3 : Option Addr) (c1 c2 c3 : Nat) : RD := { u := fun j => if j = 6 then v else D.u j, g := D.g, G1 := G1, G2 := G2, G3 := G3, c1 := c1, c2 := c2, c3 := c3 }
def RD.vals (D : RD) (R : Bfs) : List Value := [.slice D.G1 R.lo.length D.c1, .slice D.G2 R.hi.length D.c2, .slice D.G3 R.nw.length D.c3]
structure RI (L : Nat → Bool) (D : RD) (v0 v2 v4 : Value) (N : Net) (ll lh ln la lb : List Int) (R : Bfs) (code : Int) (z : Nat) (w0 w : World) : Prop where
  bl : Below z w0 w
  sz : z ≤ w.heap.size
  e0 : L 0 = true → D.u 0 = v0
  e2 : L 2 = true → D.u 2 = v2
  e4 : L 4 = true → D.u 4 = v4
  e1 : L 1 = true → L 6 = false → ∃ A B c d, D.u 1 = netV A B N.nodes.length c N.pipes.length d ∧ N.nodes.length ≤ c ∧ NetAt w A B N
  e3 : L 3 = true → L 6 = false → ∃ A1 A2 A3 c1 c2 c3, D.u 3 = bufV A1 A2 A3 ll.length lh.length ln.length c1 c2 c3 ∧ BufAt w A1 A2 A3 ll lh ln
  e5 : L 5 = true → L 6 = false → ∃ Fa Fb ca cb, D.u 5 = .agg #[.slice Fa la.length ca, .slice Fb lb.length cb] ∧ HouAt w Fa Fb la lb
  e6 : L 6 = true → D.u 6 = .tuple #[.agg (D.vals R).toArray, .int .i64 code] ∧ BufW z w D.G1 D.G2 D.G3 R.lo R.hi R.nw
  e7 : L 7 = true → D.u 7 = .tuple #[.agg (D.vals R).toArray, .int .i64 code]
  e8 : L 8 = true → D.u 8 = .agg (D.vals R).toArray
  e9 : L 9 = true → D.u 9 = .int .i64 code
  b : L 10 = true → D.u 10 = .pointer (some ⟨D.g, 0, none⟩) ∧ z ≤ D.g ∧ ∃ y0 y1 y2, Bx w D.g [y0, y1, y2]
  ag : L 6 = true → L 10 = true → Off D.g D.G1 D.G2 D.G3
  e11 : L 11 = true → Bx w D.g (D.vals R)
  e12 : L 12 = true → D.u 12 = .int .i64 code
  c7 : L 7 = true → L 6 = true
  c8 : L 8 = true → L 7 = true
  c11 : L 11 = true → L 10 = true ∧ L 8 = true
variable {L : Nat → Bool} {D : RD} {v0 v2 v4 : Value} {N : Net} {ll lh ln la lb : List Int} {R : Bfs} {code : Int} {z : Nat} {w0 w w' : World}
theorem RI.below (h : RI L D v0 v2 v4 N ll lh ln la lb R code z w0 w) (hb : Below w.heap.size w w') : RI L D v0 v2 v4 N ll lh ln la lb R code z w0 w' := by
  constructor
  case bl => exact h.bl.trans (hb.mono h.sz)
  case sz => exact Nat.le_trans h.sz hb.size
  case e1 => intro x y; obtain ⟨A, B, c, d, a1, a2, a3⟩ := h.e1 x y; exact ⟨A, B, c, d, a1, a2, a3.below hb⟩
  case e3 => intro x y; obtain ⟨A1, A2, A3, c1, c2, c3, a1, a2⟩ := h.e3 x y; exact ⟨A1, A2, A3, c1, c2, c3, a1, a2.below hb⟩
  case e5 => intro x y; obtain ⟨A, B, c, d, a1, a2⟩ := h.e5 x y; exact ⟨A, B, c, d, a1, a2.below hb⟩
  case e6 => intro x; exact ⟨(h.e6 x).1, (h.e6 x).2.below hb⟩
  case b => intro x; obtain ⟨a1, a2, y0, y1, y2, a3⟩ := h.b x; exact ⟨a1, a2, y0, y1, y2, a3.below hb a3.lt⟩
  case e11 => intro x; exact (h.e11 x).below hb (h.e11 x).lt
  case e0 => exact h.e0
  case e2 => exact h.e2
  case e4 => exact h.e4
  case e7 => exact h.e7
  case e8 => exact h.e8
  case e9 => exact h.e9
  case ag => exact h.ag
  case e12 => exact h.e12
  case c7 => exact h.c7
  case c8 => exact h.c8
  case c11 => exact h.c11
theorem RI.start (hb : Below z w0 w) (hz : z ≤ w.heap.size) : RI (fun _ => false) D v0 v2 v4 N ll lh ln la lb R code z w0 w := by
  constructor <;> first | exact hb | exact hz | (intros; contradiction)
theorem RI.l0 (h : RI L D v0 v2 v4 N ll lh ln la lb R code z w0 w) : RI (upd L 0) (D.put 0 v0) v0 v2 v4 N ll lh ln la lb R code z w0 w := by
  constructor
  case bl => exact h.bl
  case sz => exact h.sz
  case e0 => intro _; rfl
  case e2 => intro x; exact h.e2 (by simpa [upd] using x)
  case e4 => intro x; exact h.e4 (by simpa [upd] using x)
  case e6 => intro x; exact h.e6 (by simpa [upd] using x)
  case e7 => intro x; exact h.e7 (by simpa [upd] using x)
  case e8 => intro x; exact h.e8 (by simpa [upd] using x)
  case e9 => intro x; exact h.e9 (by simpa [upd] using x)
  case b => intro x; exact h.b (by simpa [upd] using x)
  case e11 => intro x; exact h.e11 (by simpa [upd] using x)
  case e12 => intro x; exact h.e12 (by simpa [upd] using x)
  case e1 => intro x y; exact h.e1 (by simpa [upd] using x) (by simpa [upd] using y)
  case e3 => intro x y; exact h.e3 (by simpa [upd] using x) (by simpa [upd] using y)
  case e5 => intro x y; exact h.e5 (by simpa [upd] using x) (by simpa [upd] using y)
  case ag => intro x y; exact h.ag (by simpa [upd] using x) (by simpa [upd] using y)
  case c7 => have := h.c7; simpa [upd] using this
  case c8 => have := h.c8; simpa [upd] using this
  case c11 => have := h.c11; simpa [upd] using this
theorem RI.l2 (h : RI L D v0 v2 v4 N ll lh ln la lb R code z w0 w) : RI (upd L 2) (D.put 2 v2) v0 v2 v4 N ll lh ln la lb R code z w0 w := by
  constructor
  case bl => exact h.bl
  case sz => exact h.sz
  case e0 => intro x; exact h.e0 (by simpa [upd] using x)
  case e2 => intro _; rfl
  case e4 => intro x; exact h.e4 (by simpa [upd] using x)
  case e6 => intro x; exact h.e6 (by simpa [upd] using x)
  case e7 => intro x; exact h.e7 (by simpa [upd] using x)
  case e8 => intro x; exact h.e8 (by simpa [upd] using x)
  case e9 => intro x; exact h.e9 (by simpa [upd] using x)
  case b => intro x; exact h.b (by simpa [upd] using x)
  case e11 => intro x; exact h.e11 (by simpa [upd] using x)
  case e12 => intro x; exact h.e12 (by simpa [upd] using x)
  case e1 => intro x y; exact h.e1 (by simpa [upd] using x) (by simpa [upd] using y)
  case e3 => intro x y; exact h.e3 (by simpa [upd] using x) (by simpa [upd] using y)
  case e5 => intro x y; exact h.e5 (by simpa [upd] using x) (by simpa [upd] using y)
  case ag => intro x y; exact h.ag (by simpa [upd] using x) (by simpa [upd] using y)
  case c7 => have := h.c7; simpa [upd] using this
  case c8 => have := h.c8; simpa [upd] using this
  case c11 => have := h.c11; simpa [upd] using this
theorem RI.l4 (h : RI L D v0 v2 v4 N ll lh ln la lb R code z w0 w) : RI (upd L 4) (D.put 4 v4) v0 v2 v4 N ll lh ln la lb R code z w0 w := by
  constructor
  case bl => exact h.bl
  case sz => exact h.sz
  case e0 => intro x; exact h.e0 (by simpa [upd] using x)
  case e2 => intro x; exact h.e2 (by simpa [upd] using x)
  case e4 => intro _; rfl
  case e6 => intro x; exact h.e6 (by simpa [upd] using x)
  case e7 => intro x; exact h.e7 (by simpa [upd] using x)
  case e8 => intro x; exact h.e8 (by simpa [upd] using x)
  case e9 => intro x; exact h.e9 (by simpa [upd] using x)
  case b => intro x; exact h.b (by simpa [upd] using x)
  case e11 => intro x; exact h.e11 (by simpa [upd] using x)
  case e12 => intro x; exact h.e12 (by simpa [upd] using x)
  case e1 => intro x y; exact h.e1 (by simpa [upd] using x) (by simpa [upd] using y)
  case e3 => intro x y; exact h.e3 (by simpa [upd] using x) (by simpa [upd] using y)
  case e5 => intro x y; exact h.e5 (by simpa [upd] using x) (by simpa [upd] using y)
  case ag => intro x y; exact h.ag (by simpa [upd] using x) (by simpa [upd] using y)
  case c7 => have := h.c7; simpa [upd] using this
  case c8 => have := h.c8; simpa [upd] using this
  case c11 => have := h.c11; simpa [upd] using this
theorem RI.l1 (h : RI L D v0 v2 v4 N ll lh ln la lb R code z w0 w) {A B : Option Addr} {c d : Nat} (hb : Below w.heap.size w w') (hc : N.nodes.length ≤ c) (hN : NetAt w' A B N) : RI (upd L 1) (D.put 1 (netV A B N.nodes.length c N.pipes.length d)) v0 v2 v4 N ll lh ln la lb R code z w0 w' := by
  have h' := h.below hb
  constructor
  case bl => exact h'.bl
  case sz => exact h'.sz
  case e0 => intro x; exact h'.e0 (by simpa [upd] using x)
  case e2 => intro x; exact h'.e2 (by simpa [upd] using x)
  case e4 => intro x; exact h'.e4 (by simpa [upd] using x)
  case e6 => intro x; exact h'.e6 (by simpa [upd] using x)
  case e7 => intro x; exact h'.e7 (by simpa [upd] using x)
  case e8 => intro x; exact h'.e8 (by simpa [upd] using x)
  case e9 => intro x; exact h'.e9 (by simpa [upd] using x)
  case b => intro x; exact h'.b (by simpa [upd] using x)
  case e11 => intro x; exact h'.e11 (by simpa [upd] using x)
  case e12 => intro x; exact h'.e12 (by simpa [upd] using x)
  case e1 => intro _ _; exact ⟨A, B, c, d, rfl, hc, hN⟩
  case e3 => intro x y; exact h'.e3 (by simpa [upd] using x) (by simpa [upd] using y)
  case e5 => intro x y; exact h'.e5 (by simpa [upd] using x) (by simpa [upd] using y)
  case ag => intro x y; exact h'.ag (by simpa [upd] using x) (by simpa [upd] using y)
  case c7 => have := h.c7; simpa [upd] using this
  case c8 => have := h.c8; simpa [upd] using this
  case c11 => have := h.c11; simpa [upd] using this
theorem RI.l3 (h : RI L D v0 v2 v4 N ll lh ln la lb R code z w0 w) {A1 A2 A3 : Option Addr} {c1 c2 c3 : Nat} (hb : Below w.heap.size w w') (hN : BufAt w' A1 A2 A3 ll lh ln) : RI (upd L 3) (D.put 3 (bufV A1 A2 A3 ll.length lh.length ln.length c1 c2 c3)) v0 v2 v4 N ll lh ln la lb R code z w0 w' := by
  have h' := h.below hb
  constructor
  case bl => exact h'.bl
  case sz => exact h'.sz
  case e0 => intro x; exact h'.e0 (by simpa [upd] using x)
  case e2 => intro x; exact h'.e2 (by simpa [upd] using x)
  case e4 => intro x; exact h'.e4 (by simpa [upd] using x)
  case e6 => intro x; exact h'.e6 (by simpa [upd] using x)
  case e7 => intro x; exact h'.e7 (by simpa [upd] using x)
  case e8 => intro x; exact h'.e8 (by simpa [upd] using x)
  case e9 => intro x; exact h'.e9 (by simpa [upd] using x)
  case b => intro x; exact h'.b (by simpa [upd] using x)
  case e11 => intro x; exact h'.e11 (by simpa [upd] using x)
  case e12 => intro x; exact h'.e12 (by simpa [upd] using x)
  case e1 => intro x y; exact h'.e1 (by simpa [upd] using x) (by simpa [upd] using y)
  case e3 => intro _ _; exact ⟨A1, A2, A3, c1, c2, c3, rfl, hN⟩
  case e5 => intro x y; exact h'.e5 (by simpa [upd] using x) (by simpa [upd] using y)
  case ag => intro x y; exact h'.ag (by simpa [upd] using x) (by simpa [upd] using y)
  case c7 => have := h.c7; simpa [upd] using this
  case c8 => have := h.c8; simpa [upd] using this
  case c11 => have := h.c11; simpa [upd] using this
theorem RI.l5 (h : RI L D v0 v2 v4 N ll lh ln la lb R code z w0 w) {Fa Fb : Option Addr} {ca cb : Nat} (hb : Below w.heap.size w w') (hN : HouAt w' Fa Fb la lb) : RI (upd L 5) (D.put 5 (.agg #[.slice Fa la.length ca, .slice Fb lb.length cb])) v0 v2 v4 N ll lh ln la lb R code z w0 w' := by
  have h' := h.below hb
  constructor
  case bl => exact h'.bl
  case sz => exact h'.sz
  case e0 => intro x; exact h'.e0 (by simpa [upd] using x)
  case e2 => intro x; exact h'.e2 (by simpa [upd] using x)
  case e4 => intro x; exact h'.e4 (by simpa [upd] using x)
  case e6 => intro x; exact h'.e6 (by simpa [upd] using x)
  case e7 => intro x; exact h'.e7 (by simpa [upd] using x)
  case e8 => intro x; exact h'.e8 (by simpa [upd] using x)
  case e9 => intro x; exact h'.e9 (by simpa [upd] using x)
  case b => intro x; exact h'.b (by simpa [upd] using x)
  case e11 => intro x; exact h'.e11 (by simpa [upd] using x)
  case e12 => intro x; exact h'.e12 (by simpa [upd] using x)
  case e1 => intro x y; exact h'.e1 (by simpa [upd] using x) (by simpa [upd] using y)
  case e3 => intro x y; exact h'.e3 (by simpa [upd] using x) (by simpa [upd] using y)
  case e5 => intro _ _; exact ⟨Fa, Fb, ca, cb, rfl, hN⟩
  case ag => intro x y; exact h'.ag (by simpa [upd] using x) (by simpa [upd] using y)
  case c7 => have := h.c7; simpa [upd] using this
  case c8 => have := h.c8; simpa [upd] using this
  case c11 => have := h.c11; simpa [upd] using this
theorem RI.l6 (h : RI L D v0 v2 v4 N ll lh ln la lb R code z w0 w) {G1 G2 G3 : Option Addr} {c1 c2 c3 : Nat} (hno : L 6 = false) (hb : Below w.heap.size w w') (hW : BufW w.heap.size w' G1 G2 G3 R.lo R.hi R.nw) : RI (upd L 6) (D.made (.tuple #[.agg #[.slice G1 R.lo.length c1, .slice G2 R.hi.length c2, .slice G3 R.nw.length c3], .int .i64 code]) G1 G2 G3 c1 c2 c3) v0 v2 v4 N ll lh ln la lb R code z w0 w' := by
  have h' := h.below hb
  have n7 : L 7 = false := by cases x : L 7 <;> simp_all [h.c7]
  have n8 : L 8 = false := by cases x : L 8 <;> simp_all [h.c8]
  have n11 : L 11 = false := by cases x : L 11 with
    | false => rfl
    | true => have := (h.c11 x).2; rw [n8] at this; cases this
  constructor
  case bl => exact h'.bl
  case sz => exact h'.sz
  case e0 => intro x; exact h'.e0 (by simpa [upd] using x)
  case e2 => intro x; exact h'.e2 (by simpa [upd] using x)
  case e4 => intro x; exact h'.e4 (by simpa [upd] using x)
  case e6 => intro _; exact ⟨rfl, hW.lower h.sz⟩
  case e7 => intro x; simp [upd, n7] at x
  case e8 => intro x; simp [upd, n8] at x
  case e9 => intro x; exact h'.e9 (by simpa [upd] using x)
  case b => intro x; exact h'.b (by simpa [upd] using x)
  case e11 => intro x; simp [upd, n11] at x
  case e12 => intro x; exact h'.e12 (by simpa [upd] using x)
  case e1 => intro _ y; simp [upd] at y
  case e3 => intro _ y; simp [upd] at y
  case e5 => intro _ y; simp [upd] at y
  case ag => intro _ y; obtain ⟨_, _, _, _, _, a3⟩ := h.b (by simpa [upd] using y); exact hW.off a3.lt
  case c7 => simp [upd]
  case c8 => have := h.c8; simpa [upd] using this
  case c11 => have := h.c11; simpa [upd] using this
theorem RI.l7 (h : RI L D v0 v2 v4 N ll lh ln la lb R code z w0 w) (hp : L 6 = true) : RI (upd L 7) (D.put 7 (.tuple #[.agg (D.vals R).toArray, .int .i64 code])) v0 v2 v4 N ll lh ln la lb R code z w0 w := by
  constructor
  case bl => exact h.bl
  case sz => exact h.sz
  case e0 => intro x; exact h.e0 (by simpa [upd] using x)
  case e2 => intro x; exact h.e2 (by simpa [upd] using x)
  case e4 => intro x; exact h.e4 (by simpa [upd] using x)
  case e6 => intro x; exact h.e6 (by simpa [upd] using x)
  case e7 => intro _; rfl
  case e8 => intro x; exact h.e8 (by simpa [upd] using x)
  case e9 => intro x; exact h.e9 (by simpa [upd] using x)
  case b => intro x; exact h.b (by simpa [upd] using x)
  case e11 => intro x; exact h.e11 (by simpa [upd] using x)
  case e12 => intro x; exact h.e12 (by simpa [upd] using x)
  case e1 => intro x y; exact h.e1 (by simpa [upd] using x) (by simpa [upd] using y)
  case e3 => intro x y; exact h.e3 (by simpa [upd] using x) (by simpa [upd] using y)
  case e5 => intro x y; exact h.e5 (by simpa [upd] using x) (by simpa [upd] using y)
  case ag => intro x y; exact h.ag (by simpa [upd] using x) (by simpa [upd] using y)
  case c7 => intro _; simp [upd, hp]
  case c8 => intro x; have := h.c8 (by simpa [upd] using x); simp [upd, this]
  case c11 => have := h.c11; simpa [upd] using this
theorem RI.l8 (h : RI L D v0 v2 v4 N ll lh ln la lb R code z w0 w) (hp : L 7 = true) : RI (upd L 8) (D.put 8 (.agg (D.vals R).toArray)) v0 v2 v4 N ll lh ln la lb R code z w0 w := by
  constructor
  case bl => exact h.bl
  case sz => exact h.sz
  case e0 => intro x; exact h.e0 (by simpa [upd] using x)
  case e2 => intro x; exact h.e2 (by simpa [upd] using x)
  case e4 => intro x; exact h.e4 (by simpa [upd] using x)
  case e6 => intro x; exact h.e6 (by simpa [upd] using x)
  case e7 => intro x; exact h.e7 (by simpa [upd] using x)
  case e8 => intro _; rfl
  case e9 => intro x; exact h.e9 (by simpa [upd] using x)
  case b => intro x; exact h.b (by simpa [upd] using x)
  case e11 => intro x; exact h.e11 (by simpa [upd] using x)
  case e12 => intro x; exact h.e12 (by simpa [upd] using x)
  case e1 => intro x y; exact h.e1 (by simpa [upd] using x) (by simpa [upd] using y)
  case e3 => intro x y; exact h.e3 (by simpa [upd] using x) (by simpa [upd] using y)
  case e5 => intro x y; exact h.e5 (by simpa [upd] using x) (by simpa [upd] using y)
  case ag => intro x y; exact h.ag (by simpa [upd] using x) (by simpa [upd] using y)
  case c7 => have := h.c7; simpa [upd] using this
  case c8 => intro _; simp [upd, hp]
  case c11 => intro x; have := h.c11 (by simpa [upd] using x); simp [upd, this]
theorem RI.l9 (h : RI L D v0 v2 v4 N ll lh ln la lb R code z w0 w) : RI (upd L 9) (D.put 9 (.int .i64 code)) v0 v2 v4 N ll lh ln la lb R code z w0 w := by
  constructor
  case bl => exact h.bl
  case sz => exact h.sz
  case e0 => intro x; exact h.e0 (by simpa [upd] using x)
  case e2 => intro x; exact h.e2 (by simpa [upd] using x)
  case e4 => intro x; exact h.e4 (by simpa [upd] using x)
  case e6 => intro x; exact h.e6 (by simpa [upd] using x)
  case e7 => intro x; exact h.e7 (by simpa [upd] using x)
  case e8 => intro x; exact h.e8 (by simpa [upd] using x)
  case e9 => intro _; rfl
  case b => intro x; exact h.b (by simpa [upd] using x)
  case e11 => intro x; exact h.e11 (by simpa [upd] using x)
  case e12 => intro x; exact h.e12 (by simpa [upd] using x)
  case e1 => intro x y; exact h.e1 (by simpa [upd] using x) (by simpa [upd] using y)
  case e3 => intro x y; exact h.e3 (by simpa [upd] using x) (by simpa [upd] using y)
  case e5 => intro x y; exact h.e5 (by simpa [upd] using x) (by simpa [upd] using y)
  case ag => intro x y; exact h.ag (by simpa [upd] using x) (by simpa [upd] using y)
  case c7 => have := h.c7; simpa [upd] using this
  case c8 => have := h.c8; simpa [upd] using this
  case c11 => have := h.c11; simpa [upd] using this
theorem RI.l12 (h : RI L D v0 v2 v4 N ll lh ln la lb R code z w0 w) : RI (upd L 12) (D.put 12 (.int .i64 code)) v0 v2 v4 N ll lh ln la lb R code z w0 w := by
  constructor
  case bl => exact h.bl
  case sz => exact h.sz
  case e0 => intro x; exact h.e0 (by simpa [upd] using x)
  case e2 => intro x; exact h.e2 (by simpa [upd] using x)
  case e4 => intro x; exact h.e4 (by simpa [upd] using x)
  case e6 => intro x; exact h.e6 (by simpa [upd] using x)
  case e7 => intro x; exact h.e7 (by simpa [upd] using x)
  case e8 => intro x; exact h.e8 (by simpa [upd] using x)
  case e9 => intro x; exact h.e9 (by simpa [upd] using x)
  case b => intro x; exact h.b (by simpa [upd] using x)
  case e11 => intro x; exact h.e11 (by simpa [upd] using x)
  case e12 => intro _; rfl
  case e1 => intro x y; exact h.e1 (by simpa [upd] using x) (by simpa [upd] using y)
  case e3 => intro x y; exact h.e3 (by simpa [upd] using x) (by simpa [upd] using y)
  case e5 => intro x y; exact h.e5 (by simpa [upd] using x) (by simpa [upd] using y)
  case ag => intro x y; exact h.ag (by simpa [upd] using x) (by simpa [upd] using y)
  case c7 => have := h.c7; simpa [upd] using this
  case c8 => have := h.c8; simpa [upd] using this
  case c11 => have := h.c11; simpa [upd] using this
theorem RI.l10 (h : RI L D v0 v2 v4 N ll lh ln la lb R code z w0 w) (hno : L 10 = false) (hb : Below w.heap.size w w') {y0 y1 y2 : Value} (hx : Bx w' w.heap.size [y0, y1, y2]) : RI (upd L 10) (D.boxed (.pointer (some ⟨w.heap.size, 0, none⟩)) w.heap.size) v0 v2 v4 N ll lh ln la lb R code z w0 w' := by
  have h' := h.below hb
  have n11 : L 11 = false := by cases x : L 11 with
    | false => rfl
    | true => have := (h.c11 x).1; rw [hno] at this; cases this
  constructor
  case bl => exact h'.bl
  case sz => exact h'.sz
  case e0 => intro x; exact h'.e0 (by simpa [upd] using x)
  case e2 => intro x; exact h'.e2 (by simpa [upd] using x)
  case e4 => intro x; exact h'.e4 (by simpa [upd] using x)
  case e6 => intro x; exact h'.e6 (by simpa [upd] using x)
  case e7 => intro x; exact h'.e7 (by simpa [upd] using x)
  case e8 => intro x; exact h'.e8 (by simpa [upd] using x)
  case e9 => intro x; exact h'.e9 (by simpa [upd] using x)
  case b => intro _; exact ⟨rfl, h.sz, y0, y1, y2, hx⟩
  case e11 => intro x; simp [upd, n11] at x
  case e12 => intro x; exact h'.e12 (by simpa [upd] using x)
  case e1 => intro x y; exact h'.e1 (by simpa [upd] using x) (by simpa [upd] using y)
  case e3 => intro x y; exact h'.e3 (by simpa [upd] using x) (by simpa [upd] using y)
  case e5 => intro x y; exact h'.e5 (by simpa [upd] using x) (by simpa [upd] using y)
  case ag => intro x _; exact (h.e6 (by simpa [upd] using x)).2.fresh (Nat.le_refl _)
  case c7 => have := h.c7; simpa [upd] using this
  case c8 => have := h.c8; simpa [upd] using this
  case c11 => intro x; simp [upd, n11] at x
theorem RI.l11 (h : RI L D v0 v2 v4 N ll lh ln la lb R code z w0 w) (h6 : L 6 = true) (h8 : L 8 = true) (h10 : L 10 = true) :
    RI (upd L 11) D v0 v2 v4 N ll lh ln la lb R code z w0 (((w.setCell ⟨D.g, 0, none⟩ (.slice D.G1 R.lo.length D.c1)).setCell ⟨D.g, 1, none⟩ (.slice D.G2 R.hi.length D.c2)).setCell ⟨D.g, 2, none⟩ (.slice D.G3 R.nw.length D.c3)) := by
  obtain ⟨a1, a2, y0, y1, y2, a3⟩ := h.b h10
  have k0 := a3.cell 0 rfl
  have k1 := a3.cell 1 rfl
  have k2 := a3.cell 2 rfl
  have f0 := a3.frozen 0 rfl
  have f1 := a3.frozen 1 rfl
  have f2 := a3.frozen 2 rfl
  have fl := a3.lt
  have hx : Bx (((w.setCell ⟨D.g, 0, none⟩ (.slice D.G1 R.lo.length D.c1)).setCell ⟨D.g, 1, none⟩ (.slice D.G2 R.hi.length D.c2)).setCell ⟨D.g, 2, none⟩ (.slice D.G3 R.nw.length D.c3)) D.g [.slice D.G1 R.lo.length D.c1, .slice D.G2 R.hi.length D.c2, .slice D.G3 R.nw.length D.c3] :=
    bx3 (by simpa using fl) (by simp [go_sem, k0, k1, k2]) (by simp [f0, f1, f2]) (by simp [go_sem, k0, k1, k2]) (by simp [f0, f1, f2]) (by simp [go_sem, k0, k1, k2]) (by simp [f0, f1, f2])
  have ho := h.ag h6 h10
  constructor
  case bl => have hb := h.bl; (repeat' (first | (with_reducible exact Below.refl _ _) | (with_reducible assumption) | (with_reducible refine Below.alloc ?_ ?_ _) | (with_reducible refine Below.drew ?_) | (with_reducible refine Below.drewN' ?_ _) | (with_reducible refine Below.setCell ?_ ?_ _) | (refine Below.via ?_ (by with_reducible assumption) ?_) | (with_reducible refine Below.via ?_ (Wd.h _) ?_) | go_size))
  case sz => have := h.sz; simpa using this
  case e1 => intro _ y; simp [upd, h6] at y
  case e3 => intro _ y; simp [upd, h6] at y
  case e5 => intro _ y; simp [upd, h6] at y
  case e6 => intro _; exact ⟨(h.e6 h6).1, (((h.e6 h6).2.seto ho _).seto ho _).seto ho _⟩
  case b => intro _; exact ⟨a1, a2, _, _, _, hx⟩
  case e11 => intro _; exact hx
  case ag => intro _ _; exact ho
  case c11 => intro _; simp [upd, h8, h10]
  case c7 => have := h.c7; simpa [upd] using this
  case c8 => have := h.c8; simpa [upd] using this
  case e0 => intro x; exact h.e0 (by simpa [upd] using x)
  case e2 => intro x; exact h.e2 (by simpa [upd] using x)
  case e4 => intro x; exact h.e4 (by simpa [upd] using x)
  case e7 => intro x; exact h.e7 (by simpa [upd] using x)
  case e8 => intro x; exact h.e8 (by simpa [upd] using x)
  case e9 => intro x; exact h.e9 (by simpa [upd] using x)
  case e12 => intro x; exact h.e12 (by simpa [upd] using x)
end Go.Proofs.Ytapdcndagnlmaaa
