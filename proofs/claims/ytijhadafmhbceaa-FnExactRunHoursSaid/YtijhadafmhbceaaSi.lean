/- The invariant of the region that makes the buffers of an hour. -/
import Derived.Test.YtijhadafmhbceaaSt
import Derived.Test.YtijhadafmhbceaaRg
namespace Go.Proofs.Ytijhadafmhbceaa
set_option linter.unusedVariables false
set_option linter.unusedSimpArgs false
open Go.RowKit
def IW (lo hi : Nat) (w : World) (G : Option Addr) (l : List Int) : Prop := Wr lo w G l.length (l.map iV) ∧ (∀ k, onA G k → k < hi) ∧ lo ≤ hi ∧ hi ≤ w.heap.size
theorem IW.below {lo hi : Nat} {w w' : World} {G : Option Addr} {l : List Int} (h : IW lo hi w G l) (hb : Below w.heap.size w w') : IW lo hi w' G l :=
  ⟨h.1.below hb, h.2.1, h.2.2.1, Nat.le_trans h.2.2.2 hb.size⟩
theorem IW.of {lo : Nat} {w : World} {G : Option Addr} {l : List Int} (h : Wr lo w G l.length (l.map iV)) (hs : lo ≤ w.heap.size) : IW lo w.heap.size w G l :=
  ⟨h, h.hi, hs, Nat.le_refl _⟩
theorem BufW.setx {base : Nat} {w : World} {A1 A2 A3 : Option Addr} {l1 l2 l3 : List Int} (h : BufW base w A1 A2 A3 l1 l2 l3) {p : Addr} (h1 : ∀ k, onA A1 k → k ≠ p.block) (h2 : ∀ k, onA A2 k → k ≠ p.block) (h3 : ∀ k, onA A3 k → k ≠ p.block) (u : Value) : BufW base (w.setCell p u) A1 A2 A3 l1 l2 l3 :=
  ⟨h.r1.set_ h1 u, h.r2.set_ h2 u, h.r3.set_ h3 u, h.d12, h.d13, h.d23⟩
structure SD where
  u : Nat → Value
  g : Nat
  lo : Nat → Nat
  hi : Nat → Nat
  c : Nat → Nat
  G : Nat → Option Addr
def SD.put (D : SD) (t : Nat) (v : Value) : SD := { D with u := fun j => if j = t then v else D.u j }
def SD.made (D : SD) (t : Nat) (v : Value) (lo hi c : Nat) (G : Option Addr) : SD :=
  { u := fun j => if j = t then v else D.u j, g := D.g, lo := fun j => if j = t then lo else D.lo j, hi := fun j => if j = t then hi else D.hi j, c := fun j => if j = t then c else D.c j, G := fun j => if j = t then G else D.G j }
def SD.boxed (D : SD) (v : Value) (g : Nat) : SD := { D with u := fun j => if j = 9 then v else D.u j, g := g }
def lits : List (Nat × Nat) := [(1, 32), (2, 33), (5, 36), (6, 37), (8, 39), (9, 40), (10, 41), (11, 42)]
def mks : List (Nat × Nat) := [(3, 34), (7, 38), (12, 43)]
structure SI (L : Nat → Bool) (D : SD) (q : Nat → Value) (l : Nat → List Int) (z : Nat) (w0 w : World) : Prop where
  bl : Below z w0 w
  sz : z ≤ w.heap.size
  lit : ∀ p ∈ lits, L p.1 = true → D.u p.2 = q p.2
  e0 : L 0 = true → ∃ ao, D.u 31 = .slice ao 0 0
  e4 : L 4 = true → ∃ ao, D.u 35 = .slice ao 0 0
  m : ∀ p ∈ mks, L p.1 = true → D.u p.2 = .slice (D.G p.2) (l p.2).length (D.c p.2) ∧ IW (D.lo p.2) (D.hi p.2) w (D.G p.2) (l p.2) ∧ z ≤ D.lo p.2
  ap : ∀ p ∈ mks, ∀ r ∈ mks, p.1 < r.1 → L p.1 = true → L r.1 = true → D.hi p.2 ≤ D.lo r.2
  b : L 14 = true → D.u 9 = .pointer (some ⟨D.g, 0, none⟩) ∧ z ≤ D.g ∧ ∃ y0 y1 y2, Bx w D.g [y0, y1, y2]
  ag : ∀ p ∈ mks, L p.1 = true → L 14 = true → D.g < D.lo p.2 ∨ D.hi p.2 ≤ D.g
  f13 : L 13 = true → D.u 44 = .agg #[D.u 34, D.u 38, D.u 43]
  f15 : L 15 = true → Bx w D.g [D.u 34, D.u 38, D.u 43]
  c7 : L 7 = true → L 3 = true
  c12 : L 12 = true → L 7 = true
  c13 : L 13 = true → L 12 = true
  c15 : L 15 = true → L 13 = true ∧ L 14 = true
variable {L : Nat → Bool} {D : SD} {q : Nat → Value} {l : Nat → List Int} {z : Nat} {w0 w w' : World}
theorem SI.below (h : SI L D q l z w0 w) (hb : Below w.heap.size w w') : SI L D q l z w0 w' where
  bl := h.bl.trans (hb.mono h.sz)
  sz := Nat.le_trans h.sz hb.size
  lit := h.lit
  e0 := h.e0
  e4 := h.e4
  m := fun p hp hl => ⟨(h.m p hp hl).1, (h.m p hp hl).2.1.below hb, (h.m p hp hl).2.2⟩
  ap := h.ap
  b := fun hl => by
    obtain ⟨a1, a2, y0, y1, y2, a3⟩ := h.b hl
    exact ⟨a1, a2, y0, y1, y2, a3.below hb a3.lt⟩
  ag := h.ag
  f13 := h.f13
  f15 := fun hl => (h.f15 hl).below hb (h.f15 hl).lt
  c7 := h.c7
  c12 := h.c12
  c13 := h.c13
  c15 := h.c15
theorem SI.start (hb : Below z w0 w) (hz : z ≤ w.heap.size) : SI (fun _ => false) D q l z w0 w := by
  constructor <;> first | exact hb | exact hz | (intros; contradiction)
/-- the loads and the fields' addresses -/
theorem SI.lit_ (h : SI L D q l z w0 w) {i t : Nat} (hp : (i, t) ∈ lits) : SI (upd L i) (D.put t (q t)) q l z w0 w := by
  simp [lits] at hp
  rcases hp with ⟨rfl, rfl⟩ | ⟨rfl, rfl⟩ | ⟨rfl, rfl⟩ | ⟨rfl, rfl⟩ | ⟨rfl, rfl⟩ | ⟨rfl, rfl⟩ | ⟨rfl, rfl⟩ | ⟨rfl, rfl⟩
  all_goals
    constructor
    case bl => exact h.bl
    case sz => exact h.sz
    case lit =>
      have hl := h.lit
      simp [lits, upd, SD.put] at hl ⊢
      simp_all
    case m => have hl := h.m; simp [mks, upd, SD.put] at hl ⊢; exact hl
    case ap => have hl := h.ap; simp [mks, upd, SD.put] at hl ⊢; exact hl
    case ag => have hl := h.ag; simp [mks, upd, SD.put] at hl ⊢; exact hl
    all_goals first
      | (intro x; exact h.e0 (by simpa [upd] using x))
      | (intro x; exact h.e4 (by simpa [upd] using x))
      | (intro x; exact h.b (by simpa [upd] using x))
      | (intro x; exact h.f13 (by simpa [upd] using x))
      | (intro x; exact h.f15 (by simpa [upd] using x))
      | (have := h.c7; simpa [upd] using this)
      | (have := h.c12; simpa [upd] using this)
      | (have := h.c13; simpa [upd] using this)
      | (have := h.c15; simpa [upd] using this)
theorem SI.e_ (h : SI L D q l z w0 w) {i t : Nat} (hp : (i, t) ∈ [(0, 31), (4, 35)]) {v : Value} (hv : ∃ ao, v = .slice ao 0 0) : SI (upd L i) (D.put t v) q l z w0 w := by
  simp at hp
  rcases hp with ⟨rfl, rfl⟩ | ⟨rfl, rfl⟩
  all_goals
    constructor
    case bl => exact h.bl
    case sz => exact h.sz
    case lit => have hl := h.lit; simp [lits, upd, SD.put] at hl ⊢; exact hl
    case m => have hl := h.m; simp [mks, upd, SD.put] at hl ⊢; exact hl
    case ap => have hl := h.ap; simp [mks, upd, SD.put] at hl ⊢; exact hl
    case ag => have hl := h.ag; simp [mks, upd, SD.put] at hl ⊢; exact hl
    all_goals first
      | (intro x; exact hv)
      | (intro x; exact h.e0 (by simpa [upd] using x))
      | (intro x; exact h.e4 (by simpa [upd] using x))
      | (intro x; exact h.b (by simpa [upd] using x))
      | (intro x; exact h.f13 (by simpa [upd] using x))
      | (intro x; exact h.f15 (by simpa [upd] using x))
      | (have := h.c7; simpa [upd] using this)
      | (have := h.c12; simpa [upd] using this)
      | (have := h.c13; simpa [upd] using this)
      | (have := h.c15; simpa [upd] using this)
theorem SI.gLt (h : SI L D q l z w0 w) (h14 : L 14 = true) : D.g < w.heap.size := by
  obtain ⟨_, _, _, _, _, hb⟩ := h.b h14
  exact hb.lt
theorem SI.hiLe (h : SI L D q l z w0 w) {p : Nat × Nat} (hp : p ∈ mks) (hl : L p.1 = true) : D.hi p.2 ≤ w.heap.size := (h.m p hp hl).2.1.2.2.2
/-- the two appends and the call -/
theorem SI.m_ (h : SI L D q l z w0 w) {i t : Nat} (hp : (i, t) ∈ mks) (hno : L i = false) (hpre : (i = 7 → L 3 = true) ∧ (i = 12 → L 7 = true)) (hb : Below w.heap.size w w') {G : Option Addr} {c : Nat} (hi : IW w.heap.size w'.heap.size w' G (l t)) :
    SI (upd L i) (D.made t (.slice G (l t).length c) w.heap.size w'.heap.size c G) q l z w0 w' := by
  have hg := h.gLt
  have h3 := h.hiLe (p := (3, 34)) (by simp [mks])
  have h7 := h.hiLe (p := (7, 38)) (by simp [mks])
  have h12 := h.hiLe (p := (12, 43)) (by simp [mks])
  have hs := h.sz
  have h' := h.below hb
  have c7 := h.c7
  have c12 := h.c12
  have c13 := h.c13
  have c15 := h.c15
  simp only [] at h3 h7 h12
  simp [mks] at hp
  rcases hp with ⟨rfl, rfl⟩ | ⟨rfl, rfl⟩ | ⟨rfl, rfl⟩
  · have n7 : L 7 = false := by cases h7 : L 7 <;> simp_all
    have n12 : L 12 = false := by cases h12 : L 12 <;> simp_all
    have n13 : L 13 = false := by cases h13 : L 13 <;> simp_all
    have n15 : L 15 = false := by cases h15 : L 15 <;> simp_all
    constructor
    case bl => exact h'.bl
    case sz => exact h'.sz
    case lit => have hl := h.lit; simp [lits, upd, SD.made] at hl ⊢; exact hl
    case m => simp [mks, upd, SD.made, n7, n12]; exact ⟨hi, hs⟩
    case ap => simp [mks, upd, SD.made, n7, n12]
    case ag => simp [mks, upd, SD.made, n7, n12]; intro x; exact .inl (hg x)
    case e0 => intro x; exact h.e0 (by simpa [upd] using x)
    case e4 => intro x; exact h.e4 (by simpa [upd] using x)
    case b => intro x; exact h'.b (by simpa [upd] using x)
    all_goals simp [upd, n7, n12, n13, n15]
  · have n3 := hpre.1 rfl
    have n12 : L 12 = false := by cases h12 : L 12 <;> simp_all
    have n13 : L 13 = false := by cases h13 : L 13 <;> simp_all
    have n15 : L 15 = false := by cases h15 : L 15 <;> simp_all
    have hl := h'.m
    have ha := h.ag
    simp [mks, n3, n12, hno] at hl ha
    constructor
    case bl => exact h'.bl
    case sz => exact h'.sz
    case lit => have hl := h.lit; simp [lits, upd, SD.made] at hl ⊢; exact hl
    case m => simp [mks, upd, SD.made, n3, n12]; exact ⟨hl, hi, hs⟩
    case ap => simp [mks, upd, SD.made, n3, n12]; exact h3 n3
    case ag => simp [mks, upd, SD.made, n3, n12]; exact ⟨ha, fun x => .inl (hg x)⟩
    case e0 => intro x; exact h.e0 (by simpa [upd] using x)
    case e4 => intro x; exact h.e4 (by simpa [upd] using x)
    case b => intro x; exact h'.b (by simpa [upd] using x)
    all_goals simp [upd, n3, n12, n13, n15]
  · have n7 := hpre.2 rfl
    have n3 := c7 n7
    have n13 : L 13 = false := by cases h13 : L 13 <;> simp_all
    have n15 : L 15 = false := by cases h15 : L 15 <;> simp_all
    have hl := h'.m
    have ha := h.ag
    have hp' := h.ap
    simp [mks, n3, n7, hno] at hl ha hp'
    constructor
    case bl => exact h'.bl
    case sz => exact h'.sz
    case lit => have hl := h.lit; simp [lits, upd, SD.made] at hl ⊢; exact hl
    case m => simp [mks, upd, SD.made, n3, n7]; exact ⟨hl.1, hl.2, hi, hs⟩
    case ap => simp [mks, upd, SD.made, n3, n7]; exact ⟨⟨hp', h3 n3⟩, h7 n7⟩
    case ag => simp [mks, upd, SD.made, n3, n7]; exact ⟨ha.1, ha.2, fun x => .inl (hg x)⟩
    case e0 => intro x; exact h.e0 (by simpa [upd] using x)
    case e4 => intro x; exact h.e4 (by simpa [upd] using x)
    case b => intro x; exact h'.b (by simpa [upd] using x)
    all_goals simp [upd, n3, n7, n13, n15]
/-- the fresh box -/
theorem SI.b_ (h : SI L D q l z w0 w) (hno : L 14 = false) (hb : Below w.heap.size w w') {y0 y1 y2 : Value} (hx : Bx w' w.heap.size [y0, y1, y2]) :
    SI (upd L 14) (D.boxed (.pointer (some ⟨w.heap.size, 0, none⟩)) w.heap.size) q l z w0 w' := by
  have h3 := h.hiLe (p := (3, 34)) (by simp [mks])
  have h7 := h.hiLe (p := (7, 38)) (by simp [mks])
  have h12 := h.hiLe (p := (12, 43)) (by simp [mks])
  have hs := h.sz
  have h' := h.below hb
  have c15 := h.c15
  have n15 : L 15 = false := by cases h15 : L 15 <;> simp_all
  simp only [] at h3 h7 h12
  constructor
  case bl => exact h'.bl
  case sz => exact h'.sz
  case lit => have hl := h.lit; simp [lits, upd, SD.boxed] at hl ⊢; exact hl
  case m => have hl := h'.m; simp [mks, upd, SD.boxed] at hl ⊢; exact hl
  case ap => have hl := h'.ap; simp [mks, upd, SD.boxed] at hl ⊢; exact hl
  case ag => simp [mks, upd, SD.boxed]; exact ⟨fun x => .inr (h3 x), fun x => .inr (h7 x), fun x => .inr (h12 x)⟩
  case b => intro _; exact ⟨rfl, hs, y0, y1, y2, hx⟩
  case e0 => intro x; exact h.e0 (by simpa [upd] using x)
  case e4 => intro x; exact h.e4 (by simpa [upd] using x)
  case f13 => intro x; exact h.f13 (by simpa [upd] using x)
  case f15 => simp [upd, n15]
  case c7 => have := h.c7; simpa [upd] using this
  case c12 => have := h.c12; simpa [upd] using this
  case c13 => have := h.c13; simpa [upd] using this
  case c15 => simp [upd, n15]
/-- the build -/
theorem SI.a_ (h : SI L D q l z w0 w) (hpre : L 12 = true) : SI (upd L 13) (D.put 44 (.agg #[D.u 34, D.u 38, D.u 43])) q l z w0 w := by
  constructor
  case bl => exact h.bl
  case sz => exact h.sz
  case lit => have hl := h.lit; simp [lits, upd, SD.put] at hl ⊢; exact hl
  case m => have hl := h.m; simp [mks, upd, SD.put] at hl ⊢; exact hl
  case ap => have hl := h.ap; simp [mks, upd, SD.put] at hl ⊢; exact hl
  case ag => have hl := h.ag; simp [mks, upd, SD.put] at hl ⊢; exact hl
  case e0 => intro x; exact h.e0 (by simpa [upd] using x)
  case e4 => intro x; exact h.e4 (by simpa [upd] using x)
  case b => intro x; exact h.b (by simpa [upd] using x)
  case f13 => intro _; rfl
  case f15 => intro x; exact h.f15 (by simpa [upd] using x)
  case c7 => have := h.c7; simpa [upd] using this
  case c12 => have := h.c12; simpa [upd] using this
  case c13 => intro _; simp [upd, hpre]
  case c15 => intro x; have := h.c15 (by simpa [upd] using x); simp [upd, this]
/-- all that is known behind the region -/
theorem SI.last (h : SI L D q l z w0 w) (h13 : L 13 = true) (h14 : L 14 = true) :
    D.u 9 = .pointer (some ⟨D.g, 0, none⟩) ∧ z ≤ D.g ∧ (∃ y0 y1 y2, Bx w D.g [y0, y1, y2]) ∧ D.u 44 = .agg #[.slice (D.G 34) (l 34).length (D.c 34), .slice (D.G 38) (l 38).length (D.c 38), .slice (D.G 43) (l 43).length (D.c 43)] ∧
      BufW z w (D.G 34) (D.G 38) (D.G 43) (l 34) (l 38) (l 43) ∧ (∀ t ∈ [34, 38, 43], ∀ k, onA (D.G t) k → k ≠ D.g) := by
  have n12 := h.c13 h13
  have n7 := h.c12 n12
  have n3 := h.c7 n7
  obtain ⟨a1, a2, a3⟩ := h.b h14
  have hm := h.m
  have ha := h.ap
  have hg := h.ag
  have hu := h.f13 h13
  simp [mks, n3, n7, n12, h14] at hm ha hg
  obtain ⟨⟨m1, i1, z1⟩, ⟨m2, i2, z2⟩, ⟨m3, i3, z3⟩⟩ := hm
  refine ⟨a1, a2, a3, by rw [hu, m1, m2, m3], ⟨i1.1.lower z1, i2.1.lower z2, i3.1.lower z3, fun k x y => ?_, fun k x y => ?_, fun k x y => ?_⟩, ?_⟩
  · have := i1.2.1 k x; have := i2.1.lo k y; omega
  · have := i1.2.1 k x; have := i3.1.lo k y; omega
  · have := i2.2.1 k x; have := i3.1.lo k y; omega
  · intro t ht k hk
    simp at ht
    rcases ht with rfl | rfl | rfl
    · have := i1.2.1 k hk; have := i1.1.lo k hk; omega
    · have := i2.2.1 k hk; have := i2.1.lo k hk; omega
    · have := i3.2.1 k hk; have := i3.1.lo k hk; omega
end Go.Proofs.Ytijhadafmhbceaa
