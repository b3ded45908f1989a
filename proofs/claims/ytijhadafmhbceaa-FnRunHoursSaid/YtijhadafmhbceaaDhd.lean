/- A drawn network, buffers and an hour. -/
import Derived.Test.YtijhadafmhbceaaMxD
import Derived.Test.YtijhadafmhbceaaHo
import Derived.Lib.MinMax
namespace Go.Proofs.Ytijhadafmhbceaa
set_option linter.unusedVariables false
set_option linter.unusedSimpArgs false
open Go.RowKit
/-- four lists of k numbers, the first two within bounds -/
structure LE4 (k : Nat) (l1 l2 l3 l4 : List Int) : Prop where
  e1 : l1.length = k
  e2 : l2.length = k
  e3 : l3.length = k
  e4 : l4.length = k
  b1 : ∀ x ∈ l1, 0 ≤ x ∧ x < 30
  b2 : ∀ x ∈ l2, 0 ≤ x ∧ x < 330
theorem Q4.cell1 {w : World} {p X base : Nat} {A Bq : Option Addr} {c d : Nat} {N : Net} {u1 u2 u3 u4 : Value} {l1 l2 l3 l4 : List Int} {wr : World} (h : Q4 w p X base A Bq c d N u1 u2 u3 u4 l1 l2 l3 l4 wr) {k : Nat} {x : Int} (hx : l1[k]? = some x) : ∃ g cc, u1 = .slice (some ⟨g, 0, none⟩) l1.length cc ∧ base ≤ g ∧ g < wr.heap.size ∧ wr.cell? ⟨g, k, none⟩ = some (.int .i64 x) := by
  have hlt := (List.getElem?_eq_some_iff.1 hx).1
  obtain ⟨g, cc, e, hg, _, ha⟩ := h.o1.arr (by omega)
  exact ⟨g, cc, e, hg, ha.lt, ha.cell (by rw [List.getElem?_map, hx]; rfl)⟩
theorem Q4.cell2 {w : World} {p X base : Nat} {A Bq : Option Addr} {c d : Nat} {N : Net} {u1 u2 u3 u4 : Value} {l1 l2 l3 l4 : List Int} {wr : World} (h : Q4 w p X base A Bq c d N u1 u2 u3 u4 l1 l2 l3 l4 wr) {k : Nat} {x : Int} (hx : l2[k]? = some x) : ∃ g cc, u2 = .slice (some ⟨g, 0, none⟩) l2.length cc ∧ base ≤ g ∧ g < wr.heap.size ∧ wr.cell? ⟨g, k, none⟩ = some (.int .i64 x) := by
  have hlt := (List.getElem?_eq_some_iff.1 hx).1
  obtain ⟨g, cc, e, hg, _, ha⟩ := h.o2.arr (by omega)
  exact ⟨g, cc, e, hg, ha.lt, ha.cell (by rw [List.getElem?_map, hx]; rfl)⟩
theorem Q4.at1 {w : World} {p X base g n cc : Nat} {A Bq : Option Addr} {c d : Nat} {N : Net} {u2 u3 u4 : Value} {l1 l2 l3 l4 : List Int} {wr : World} (h : Q4 w p X base A Bq c d N (.slice (some ⟨g, 0, none⟩) n cc) u2 u3 u4 l1 l2 l3 l4 wr) {k : Nat} {x : Int} (hx : l1[k]? = some x) : g < wr.heap.size ∧ wr.cell? ⟨g, k, none⟩ = some (.int .i64 x) := by
  obtain ⟨g', cc', e, _, h1, h2⟩ := h.cell1 hx
  injection e with e
  injection e with e
  injection e with e
  subst e
  exact ⟨h1, h2⟩
theorem Q4.at2 {w : World} {p X base g n cc : Nat} {A Bq : Option Addr} {c d : Nat} {N : Net} {u1 u3 u4 : Value} {l1 l2 l3 l4 : List Int} {wr : World} (h : Q4 w p X base A Bq c d N u1 (.slice (some ⟨g, 0, none⟩) n cc) u3 u4 l1 l2 l3 l4 wr) {k : Nat} {x : Int} (hx : l2[k]? = some x) : g < wr.heap.size ∧ wr.cell? ⟨g, k, none⟩ = some (.int .i64 x) := by
  obtain ⟨g', cc', e, _, h1, h2⟩ := h.cell2 hx
  injection e with e
  injection e with e
  injection e with e
  subst e
  exact ⟨h1, h2⟩
/-- the same network but for its pipes' fields -/
structure SameN (N N' : Net) : Prop where
  n : N'.nodes.length = N.nodes.length
  m : N'.pipes.length = N.pipes.length
structure DZ (w : World) (p X : Nat) (A Bq : Option Addr) (c d : Nat) (N : Net) (a1 a2 a3 a4 : Option Addr) (l1 l2 l3 l4 : List Int) (wr : World) : Prop where
  net : NetAt wr A Bq N
  r1 : Rd wr a1 (l1.map iV)
  r2 : Rd wr a2 (l2.map iV)
  r3 : Rd wr a3 (l3.map iV)
  r4 : Rd wr a4 (l4.map iV)
  w1 : ∀ b off, a1 = some ⟨b, off, none⟩ → w.heap.size + 2 < b
  w2 : ∀ b off, a2 = some ⟨b, off, none⟩ → w.heap.size + 2 < b
  w3 : ∀ b off, a3 = some ⟨b, off, none⟩ → w.heap.size + 2 < b
  w4 : ∀ b off, a4 = some ⟨b, off, none⟩ → w.heap.size + 2 < b
  bA : ∀ b off, A = some ⟨b, off, none⟩ → w.heap.size + 2 < b
  bB : ∀ b off, Bq = some ⟨b, off, none⟩ → w.heap.size + 2 < b
  src : Src wr p
  kp : Keep (· = p) w wr
  b0 : Bx wr w.heap.size [.slice none 0 0, .slice none 0 0]
  b1 : Bx wr (w.heap.size + 1) [.slice none 0 0, .slice none 0 0, .slice none 0 0]
  b2 : Bx wr (w.heap.size + 2) [.slice none 0 0, .slice none 0 0]
  bX : Bx wr X [.slice A N.nodes.length c, .slice Bq N.pipes.length d]
  sX : w.heap.size + 2 < X
  s1 : l1.length ≤ 8
  s2 : l2.length ≤ 8
  s3 : l3.length ≤ 8
  s4 : l4.length ≤ 8
theorem Own.lowb {w : World} {base n c : Nat} {a : Option Addr} {xs : List Value} (h : Own w base 2 1 (.slice a n c) n xs) : ∀ b off, a = some ⟨b, off, none⟩ → base ≤ b := fun b off e => (World.ownsRow.lt h b (by rw [e]; rfl)).1
theorem Q4.dz {w : World} {p X base c1 c2 c3 c4 n1 n2 n3 n4 : Nat} {A Bq a1 a2 a3 a4 : Option Addr} {c d : Nat} {N : Net} {l1 l2 l3 l4 : List Int} {wr : World} (h : Q4 w p X base A Bq c d N (.slice a1 n1 c1) (.slice a2 n2 c2) (.slice a3 n3 c3) (.slice a4 n4 c4) l1 l2 l3 l4 wr) (e1 : n1 = l1.length) (e2 : n2 = l2.length) (e3 : n3 = l3.length) (e4 : n4 = l4.length) (s1 : l1.length ≤ 8) (s2 : l2.length ≤ 8) (s3 : l3.length ≤ 8) (s4 : l4.length ≤ 8) : DZ w p X A Bq c d N a1 a2 a3 a4 l1 l2 l3 l4 wr := by
  subst e1 e2 e3 e4
  have hX := h.sX
  exact ⟨h.net, h.o1.rdv.1, h.o2.rdv.1, h.o3.rdv.1, h.o4.rdv.1, fun b off e => by have := h.o1.lowb b off e; omega, fun b off e => by have := h.o2.lowb b off e; omega, fun b off e => by have := h.o3.lowb b off e; omega, fun b off e => by have := h.o4.lowb b off e; omega, fun b off e => (h.bA b off e).1, fun b off e => (h.bB b off e).1, h.src, h.kp, h.b0, h.b1, h.b2, h.bX, hX.1, s1, s2, s3, s4⟩
/-- the first list without its first element -/
theorem DZ.tail {w : World} {p X g : Nat} {A Bq a2 a3 a4 : Option Addr} {c d : Nat} {N : Net} {x : Int} {l1 l2 l3 l4 : List Int} {wr : World} (h : DZ w p X A Bq c d N (some ⟨g, 0, none⟩) a2 a3 a4 (x :: l1) l2 l3 l4 wr) : DZ w p X A Bq c d N (some ⟨g, 1, none⟩) a2 a3 a4 l1 l2 l3 l4 wr := by
  have s1 := h.s1
  simp at s1
  refine ⟨h.net, fun hne => ?_, h.r2, h.r3, h.r4, fun b off e => by injection e with e; injection e with e1 e2; exact h.w1 b 0 (by rw [← e1]), h.w2, h.w3, h.w4, h.bA, h.bB, h.src, h.kp, h.b0, h.b1, h.b2, h.bX, h.sX, by omega, h.s2, h.s3, h.s4⟩
  obtain ⟨b, off, e, hb, hat⟩ := h.r1 (by simp)
  injection e with e
  injection e with e1 e2
  subst e1; subst e2
  refine ⟨g, 1, rfl, hb, fun j v hj => ?_⟩
  have := hat (j + 1) v (by simpa using hj)
  rw [Nat.zero_add] at this
  rw [Nat.add_comm]; exact this
/-- what l19Draw hands back -/
def Drew19 (w : World) (p : Nat) (e : Ending) (w' : World) : Prop :=
  ∃ (A Bq Al Ah An Fa Fb : Option Addr) (c d cl ch cn ca cb : Nat) (N : Net) (ll lh ln la lb : List Int), e = .returned (.tuple #[netV A Bq N.nodes.length c N.pipes.length d, .agg #[.slice Al ll.length cl, .slice Ah lh.length ch, .slice An ln.length cn], .agg #[.slice Fa la.length ca, .slice Fb lb.length cb]]) ∧ N.nodes.length ≤ c ∧ NetAt w' A Bq N ∧ Rd w' Al (ll.map iV) ∧ Rd w' Ah (lh.map iV) ∧ Rd w' An (ln.map iV) ∧ Rd w' Fa (la.map iV) ∧ Rd w' Fb (lb.map iV) ∧ (ll.length ≤ 8 ∧ lh.length ≤ 8 ∧ ln.length ≤ 8 ∧ la.length ≤ 12 ∧ lb.length ≤ 8) ∧ Src w' p ∧ Keep (· = p) w w' ∧ (∀ b off, A = some ⟨b, off, none⟩ → w.heap.size < b) ∧ (∀ b off, Bq = some ⟨b, off, none⟩ → w.heap.size < b) ∧ (∀ b off, Al = some ⟨b, off, none⟩ → w.heap.size < b) ∧ (∀ b off, Ah = some ⟨b, off, none⟩ → w.heap.size < b) ∧ (∀ b off, An = some ⟨b, off, none⟩ → w.heap.size < b) ∧ (∀ b off, Fa = some ⟨b, off, none⟩ → w.heap.size < b) ∧ (∀ b off, Fb = some ⟨b, off, none⟩ → w.heap.size < b)
theorem DZ.nil1 {w : World} {p X : Nat} {A Bq a1 a2 a3 a4 : Option Addr} {c d : Nat} {N : Net} {l1 l2 l3 l4 : List Int} {wr : World} (h : DZ w p X A Bq c d N a1 a2 a3 a4 l1 l2 l3 l4 wr) : DZ w p X A Bq c d N a1 a2 a3 a4 [] l2 l3 l4 wr :=
  ⟨h.net, (fun h9 => absurd rfl h9), h.r2, h.r3, h.r4, h.w1, h.w2, h.w3, h.w4, h.bA, h.bB, h.src, h.kp, h.b0, h.b1, h.b2, h.bX, h.sX, (by simp), h.s2, h.s3, h.s4⟩
theorem dz_post {w wr wr' : World} {p X n1 n2 n3 n4 m1 m2 m3 m4 cf : Nat} {A Bq a1 a2 a3 a4 Af : Option Addr} {c d : Nat} {N : Net} {l1 l2 l3 l4 fl : List Int} (h : DZ w p X A Bq c d N a1 a2 a3 a4 l1 l2 l3 l4 wr) (e1 : n1 = l1.length) (e2 : n2 = l2.length) (e3 : n3 = l3.length) (e4 : n4 = l4.length) (hp : p < w.heap.size) (hk : Keep (fun k => k = p ∨ k = w.heap.size ∨ k = w.heap.size + 1 ∨ k = w.heap.size + 2) wr wr') (hs : Src wr' p) (hr : Rd wr' Af (fl.map iV)) (hfl : fl.length ≤ 12) (hA : ∀ b off, Af = some ⟨b, off, none⟩ → w.heap.size < b) (hnc : N.nodes.length ≤ c) :
    Drew19 w p (.returned (.tuple #[netV A Bq N.nodes.length c N.pipes.length d, .agg #[.slice a1 n1 m1, .slice a2 n2 m2, .slice a3 n3 m3], .agg #[.slice Af fl.length cf, .slice a4 n4 m4]])) wr' := by
  subst e1 e2 e3 e4
  have hX := h.sX
  have hz := h.kp.size
  refine ⟨A, Bq, a1, a2, a3, Af, a4, c, d, m1, m2, m3, cf, m4, N, l1, l2, l3, fl, l4, rfl, hnc, h.net.keepC hk (fun b off e q => by have := h.bA b off e; omega) (fun b off e q => by have := h.bB b off e; omega), h.r1.keep hk (fun b off e q => by have := h.w1 b off e; omega), h.r2.keep hk (fun b off e q => by have := h.w2 b off e; omega), h.r3.keep hk (fun b off e q => by have := h.w3 b off e; omega), hr, h.r4.keep hk (fun b off e q => by have := h.w4 b off e; omega), ⟨h.s1, h.s2, h.s3, hfl, h.s4⟩, hs, ?_, fun b off e => by have := h.bA b off e; omega, fun b off e => by have := h.bB b off e; omega, fun b off e => by have := h.w1 b off e; omega, fun b off e => by have := h.w2 b off e; omega, fun b off e => by have := h.w3 b off e; omega, hA, fun b off e => by have := h.w4 b off e; omega⟩
  have hk0 := h.kp
  exact ⟨hk.os.trans hk0.os, hk.tape.trans hk0.tape, hk.output.trans hk0.output, Nat.le_trans hk0.size hk.size, fun q h1 h2 => (hk.block q (by omega) (by omega)).trans (hk0.block q h1 h2)⟩
theorem pickH2 (a b : Int) : ∀ k : Nat, k < 2 → (#[Value.int .i64 a, Value.int .i64 b] : Array Value)[k]? = some (.int .i64 (pick [a, b] k))
  | 0, _ => rfl
  | 1, _ => rfl
  | k + 2, h => by omega
theorem litH2 (w : World) (t : TypeId) (a b : Int) (k : Nat) (h : k < 2) : (w.alloc (.cells #[Value.int .i64 a, Value.int .i64 b] t)).cell? ⟨w.heap.size, k, none⟩ = some (.int .i64 (pick [a, b] k)) := by
  refine Eq.trans ?_ (pickH2 a b k h)
  simp
theorem Src.keepN {w w' : World} {p a : Nat} (h : Src w p) (hp : p < a) (ha : a ≤ w.heap.size) (hk : Keep (fun k => k = a ∨ k = a + 1 ∨ k = a + 2) w w') : Src w' p :=
  h.high (B := p + 1) ⟨hk.os, hk.tape, hk.output, hk.size, fun k q => hk.block k (by have := h.lt; omega) (by omega)⟩ (by omega)
theorem ppx : ∀ {ps : List Pp} {k : Nat} {x : Pp}, ps[k]? = some x → (ps.flatMap Pp.cells)[k * 5 + 4]? = some (.int .i64 x.lim)
  | [], k, x, h => by simp at h
  | y :: l, 0, x, h => by simp at h; subst h; simp [Pp.cells]
  | y :: l, k + 1, x, h => by
    have ih := ppx (ps := l) (k := k) (x := x) (by simpa using h)
    rw [List.flatMap_cons, List.getElem?_append_right (by rw [Pp.len]; omega), Pp.len, show (k + 1) * 5 + 4 - 5 = k * 5 + 4 by omega]
    exact ih
theorem apart_lit {a b n m c d : Nat} (h : a ≠ b) : Apart (.slice (some ⟨a, 0, none⟩) n c) (.slice (some ⟨b, 0, none⟩) m d) := fun g e e' => by simp [Value.ownBlock] at e e'; omega
set_option maxRecDepth 100000 in
set_option maxHeartbeats 8000000 in
theorem spec_l19Draw (p : Nat) (w : World) (h : Src w p) :
    Calls Try.prog 25 #[.pointer (some ⟨p, 0, none⟩)] w (Drew19 w p) := by
  have hp := h.lt
  have HS := Lib.hid h
  clear h
  go_enter Try.func25, Try.ntmps25
  go_wp2_with fail
  have HB0 := Lib.hid (show Bx (((w.alloc (.cells #[.slice none 0 0, .slice none 0 0] 27)).alloc (.cells #[.slice none 0 0, .slice none 0 0, .slice none 0 0] 30)).alloc (.cells #[.slice none 0 0, .slice none 0 0] 40)) w.heap.size [.slice none 0 0, .slice none 0 0] from (bx2 (by first | exact hy0 | go_size) (by first | (with_reducible exact cw0_0) | go_cell_look | (simp [go_sem, hy0, cw0_0, fw0_0, cw0_1, fw0_1]; done) | (simp [go_sem]; done)) (by first | (with_reducible exact fw0_0) | (simp only [World.frozen?_setCell, fw0_0]; done) | (simp [go_sem, hy0, cw0_0, fw0_0, cw0_1, fw0_1]; done) | (simp [go_sem]; done)) (by first | (with_reducible exact cw0_1) | go_cell_look | (simp [go_sem, hy0, cw0_0, fw0_0, cw0_1, fw0_1]; done) | (simp [go_sem]; done)) (by first | (with_reducible exact fw0_1) | (simp only [World.frozen?_setCell, fw0_1]; done) | (simp [go_sem, hy0, cw0_0, fw0_0, cw0_1, fw0_1]; done) | (simp [go_sem]; done))))
  have HB1 := Lib.hid (show Bx (((w.alloc (.cells #[.slice none 0 0, .slice none 0 0] 27)).alloc (.cells #[.slice none 0 0, .slice none 0 0, .slice none 0 0] 30)).alloc (.cells #[.slice none 0 0, .slice none 0 0] 40)) (w.heap.size + 1) [.slice none 0 0, .slice none 0 0, .slice none 0 0] from (bx3 (by first | exact hy1 | go_size) (by first | (with_reducible exact cw1_0) | go_cell_look | (simp [go_sem, hy1, cw1_0, fw1_0, cw1_1, fw1_1, cw1_2, fw1_2]; done) | (simp [go_sem]; done)) (by first | (with_reducible exact fw1_0) | (simp only [World.frozen?_setCell, fw1_0]; done) | (simp [go_sem, hy1, cw1_0, fw1_0, cw1_1, fw1_1, cw1_2, fw1_2]; done) | (simp [go_sem]; done)) (by first | (with_reducible exact cw1_1) | go_cell_look | (simp [go_sem, hy1, cw1_0, fw1_0, cw1_1, fw1_1, cw1_2, fw1_2]; done) | (simp [go_sem]; done)) (by first | (with_reducible exact fw1_1) | (simp only [World.frozen?_setCell, fw1_1]; done) | (simp [go_sem, hy1, cw1_0, fw1_0, cw1_1, fw1_1, cw1_2, fw1_2]; done) | (simp [go_sem]; done)) (by first | (with_reducible exact cw1_2) | go_cell_look | (simp [go_sem, hy1, cw1_0, fw1_0, cw1_1, fw1_1, cw1_2, fw1_2]; done) | (simp [go_sem]; done)) (by first | (with_reducible exact fw1_2) | (simp only [World.frozen?_setCell, fw1_2]; done) | (simp [go_sem, hy1, cw1_0, fw1_0, cw1_1, fw1_1, cw1_2, fw1_2]; done) | (simp [go_sem]; done))))
  have HB2 := Lib.hid (show Bx (((w.alloc (.cells #[.slice none 0 0, .slice none 0 0] 27)).alloc (.cells #[.slice none 0 0, .slice none 0 0, .slice none 0 0] 30)).alloc (.cells #[.slice none 0 0, .slice none 0 0] 40)) (w.heap.size + 2) [.slice none 0 0, .slice none 0 0] from (bx2 (by first | exact hy2 | go_size) (by first | (with_reducible exact cw2_0) | go_cell_look | (simp [go_sem, hy2, cw2_0, fw2_0, cw2_1, fw2_1]; done) | (simp [go_sem]; done)) (by first | (with_reducible exact fw2_0) | (simp only [World.frozen?_setCell, fw2_0]; done) | (simp [go_sem, hy2, cw2_0, fw2_0, cw2_1, fw2_1]; done) | (simp [go_sem]; done)) (by first | (with_reducible exact cw2_1) | go_cell_look | (simp [go_sem, hy2, cw2_0, fw2_0, cw2_1, fw2_1]; done) | (simp [go_sem]; done)) (by first | (with_reducible exact fw2_1) | (simp only [World.frozen?_setCell, fw2_1]; done) | (simp [go_sem, hy2, cw2_0, fw2_0, cw2_1, fw2_1]; done) | (simp [go_sem]; done))))
  refine (spec_l05DrawChord p _ (HS.out.below (by (repeat' (first | (with_reducible exact Below.refl _ _) | (with_reducible assumption) | (with_reducible refine Below.alloc ?_ ?_ _) | (with_reducible refine Below.drew ?_) | (with_reducible refine Below.drewN' ?_ _) | (with_reducible refine Below.setCell ?_ ?_ _) | (refine Below.via ?_ (by with_reducible assumption) ?_) | (with_reducible refine Below.via ?_ (Wd.h _) ?_) | go_size))))).mono ?_
  rintro e w1 ⟨A, Bq, c, d, N, x0, rfl, hD⟩
  have hz1 := hD.kp.size
  simp at hz1
  have hnc := hD.nc
  have hnl := hD.nl
  have hpl := hD.pl
  have o1 := hD.o1
  have o2 := hD.o2
  simp at o1 o2
  go_upto_region 4 with (fail)
  have hbn : Below w1.heap.size w1 (((((w1.alloc (.cells #[.slice A N.nodes.length c, .slice Bq N.pipes.length d] 27)).alloc (.cells #[] 2)).alloc (.cells #[] 2)).alloc (.cells #[] 2)).alloc (.cells #[] 2)) := by (repeat' (first | (with_reducible exact Below.refl _ _) | (with_reducible assumption) | (with_reducible refine Below.alloc ?_ ?_ _) | (with_reducible refine Below.drew ?_) | (with_reducible refine Below.drewN' ?_ _) | (with_reducible refine Below.setCell ?_ ?_ _) | (refine Below.via ?_ (by with_reducible assumption) ?_) | (with_reducible refine Below.via ?_ (Wd.h _) ?_) | go_size))
  have H0 := Lib.hid (show Q4 w p w1.heap.size (w1.heap.size + 1) A Bq c d N (.slice (some ⟨w1.heap.size + 1, 0, none⟩) 0 0) (.slice (some ⟨w1.heap.size + 2, 0, none⟩) 0 0) (.slice (some ⟨w1.heap.size + 3, 0, none⟩) 0 0) (.slice (some ⟨w1.heap.size + 4, 0, none⟩) 0 0) [] [] [] [] (((((w1.alloc (.cells #[.slice A N.nodes.length c, .slice Bq N.pipes.length d] 27)).alloc (.cells #[] 2)).alloc (.cells #[] 2)).alloc (.cells #[] 2)).alloc (.cells #[] 2)) from
    ⟨((((show Own ((w1.alloc (.cells #[.slice A N.nodes.length c, .slice Bq N.pipes.length d] 27)).alloc (.cells #[] 2)) (w1.heap.size + 1) 2 1 (.slice (some ⟨w1.heap.size + 1, 0, none⟩) 0 0) ([] : List Int).length (([] : List Int).map iV) from (by simpa using Own.lit0 (w1.alloc (.cells #[.slice A N.nodes.length c, .slice Bq N.pipes.length d] 27)) (w1.heap.size + 1) 2 1 (by simp))).alloc _).alloc _).alloc _), (((show Own (((w1.alloc (.cells #[.slice A N.nodes.length c, .slice Bq N.pipes.length d] 27)).alloc (.cells #[] 2)).alloc (.cells #[] 2)) (w1.heap.size + 1) 2 1 (.slice (some ⟨w1.heap.size + 2, 0, none⟩) 0 0) ([] : List Int).length (([] : List Int).map iV) from (by simpa using Own.lit0 ((w1.alloc (.cells #[.slice A N.nodes.length c, .slice Bq N.pipes.length d] 27)).alloc (.cells #[] 2)) (w1.heap.size + 1) 2 1 (by simp))).alloc _).alloc _), ((show Own ((((w1.alloc (.cells #[.slice A N.nodes.length c, .slice Bq N.pipes.length d] 27)).alloc (.cells #[] 2)).alloc (.cells #[] 2)).alloc (.cells #[] 2)) (w1.heap.size + 1) 2 1 (.slice (some ⟨w1.heap.size + 3, 0, none⟩) 0 0) ([] : List Int).length (([] : List Int).map iV) from (by simpa using Own.lit0 (((w1.alloc (.cells #[.slice A N.nodes.length c, .slice Bq N.pipes.length d] 27)).alloc (.cells #[] 2)).alloc (.cells #[] 2)) (w1.heap.size + 1) 2 1 (by simp))).alloc _), (show Own (((((w1.alloc (.cells #[.slice A N.nodes.length c, .slice Bq N.pipes.length d] 27)).alloc (.cells #[] 2)).alloc (.cells #[] 2)).alloc (.cells #[] 2)).alloc (.cells #[] 2)) (w1.heap.size + 1) 2 1 (.slice (some ⟨w1.heap.size + 4, 0, none⟩) 0 0) ([] : List Int).length (([] : List Int).map iV) from (by simpa using Own.lit0 ((((w1.alloc (.cells #[.slice A N.nodes.length c, .slice Bq N.pipes.length d] 27)).alloc (.cells #[] 2)).alloc (.cells #[] 2)).alloc (.cells #[] 2)) (w1.heap.size + 1) 2 1 (by simp))), apart_lit (by omega), apart_lit (by omega), apart_lit (by omega), apart_lit (by omega), apart_lit (by omega), apart_lit (by omega),
    (o2.below hbn (Nat.le_refl _)).lower2 (by omega), (fun q off e q' off' e' h5 => hD.ap q (by rw [e]; rfl) (by rw [e', h5]; rfl)), hD.net.below hbn,
    fun b off e => by have := World.ownsRow.lt o1 b (by rw [e]; rfl); omega, fun b off e => by have := World.ownsRow.lt o2 b (by rw [e]; rfl); omega,
    hD.src.below hbn, (show Keep (· = p) w w1 by have h1 := hD.kp; (repeat' (first | (with_reducible exact Keep.refl _ _) | (with_reducible assumption) | (with_reducible refine Keep.alloc ?_ _) | (with_reducible refine Keep.drew ?_) | (with_reducible refine Keep.drewN ?_ _) | (refine Keep.trans ?_ (by with_reducible assumption)) | (refine Keep.via ?_ (by with_reducible assumption)) | (with_reducible refine Keep.new ?_ ?_ _) | go_size))).trans (Keep.of_below _ hbn), (HB0.out.keep hD.kp (by omega)).below hbn (by have := (HB0.out.keep hD.kp (by omega)).lt; omega), (HB1.out.keep hD.kp (by omega)).below hbn (by have := (HB1.out.keep hD.kp (by omega)).lt; omega), (HB2.out.keep hD.kp (by omega)).below hbn (by have := (HB2.out.keep hD.kp (by omega)).lt; omega),
    (show Bx (w1.alloc (.cells #[.slice A N.nodes.length c, .slice Bq N.pipes.length d] 27)) w1.heap.size [.slice A N.nodes.length c, .slice Bq N.pipes.length d] from bx2 (by simp) (by simp) (by simp) (by simp) (by simp)).below (show Below (w1.alloc (.cells #[.slice A N.nodes.length c, .slice Bq N.pipes.length d] 27)).heap.size (w1.alloc (.cells #[.slice A N.nodes.length c, .slice Bq N.pipes.length d] 27)) (((((w1.alloc (.cells #[.slice A N.nodes.length c, .slice Bq N.pipes.length d] 27)).alloc (.cells #[] 2)).alloc (.cells #[] 2)).alloc (.cells #[] 2)).alloc (.cells #[] 2)) by (repeat' (first | (with_reducible exact Below.refl _ _) | (with_reducible assumption) | (with_reducible refine Below.alloc ?_ ?_ _) | (with_reducible refine Below.drew ?_) | (with_reducible refine Below.drewN' ?_ _) | (with_reducible refine Below.setCell ?_ ?_ _) | (refine Below.via ?_ (by with_reducible assumption) ?_) | (with_reducible refine Below.via ?_ (Wd.h _) ?_) | go_size))) (by simp), ⟨by omega, by omega⟩, by first | (simp; done) | (simp; omega)⟩)
  clear hD hbn HB0 HB1 HB2 o1 o2
  go_wp2_with fail
  go_loopw [7, 8, 9, 10, 11] (fun u1 u2 u3 u4 t wv => ∃ (k : Nat) (l1 l2 l3 l4 : List Int), t = .int .i64 k ∧ k ≤ N.nodes.length ∧ LE4 k l1 l2 l3 l4 ∧ Q4 w p w1.heap.size (w1.heap.size + 1) A Bq c d N u1 u2 u3 u4 l1 l2 l3 l4 wv) (fun _ _ _ _ t _ => N.nodes.length - (intOf t).toNat)
  case atStart => exact ⟨0, [], [], [], [], rfl, by omega, ⟨rfl, rfl, rfl, rfl, (fun x hx => by cases hx), (fun x hx => by cases hx)⟩, H0.out⟩
  case round =>
    clear H0
    obtain ⟨k, l1, l2, l3, l4, rfl, hk, hle, hI⟩ := hrel
    have HI := Lib.hid hI
    have HLE := Lib.hid hle
    have hsz := hI.sz
    have hsX := hI.sX
    have hbX := hI.bX
    have hy7 := hbX.lt; have cw7_0 := hbX.cell 0 rfl; have fw7_0 := hbX.frozen 0 rfl; have cw7_1 := hbX.cell 1 rfl; have fw7_1 := hbX.frozen 1 rfl
    clear hI hbX hle
    by_cases hlt : k < N.nodes.length
    · have g1 : (k : Int) < (N.nodes.length : Int) := by omega
      have q2 : l2.length ≤ 7 := by have := HLE.out.e2; omega
      have q3 : l3.length ≤ 7 := by have := HLE.out.e3; omega
      have q4 : l4.length ≤ 7 := by have := HLE.out.e4; omega
      have q1 : l1.length ≤ 7 := by have := HLE.out.e1; omega
      go_wp2_with fail
      refine (spec_l01Next p _ _ HI.out.src (by omega)).mono ?_
      rintro e w3 ⟨r1, rfl, ra1, _, rb1, hs3, hk3⟩
      have rc1 := rb1 (by omega)
      have H3 := Lib.hid (HI.out.keep hp hk3 hs3)
      have hsz3 := H3.out.sz
      clear hs3 hk3 rb1 HI cw7_0 cw7_1 fw7_0 fw7_1 hy7
      go_wp2_with ((at_builtin; refine wp_app1x _ rfl (.tmp 29) (.tmp 32) 28 rfl (w1.heap.size + 1) info_i64 Try.underlying28 rfl (by omega) (by omega) _ _ _ rfl (H3.out.o1.alloc _) _ 1 1 [iV (r1)] rfl rfl (by intro j u hu; match j, hu with | 0, hu => (simp at hu; subst hu; first | (simp; done) | exact cell_newF _ _ _ _ _ _ (by simp) rfl) | j + 1, hu => simp at hu) (by simp [Value.oneCell']) (by omega) (by omega) (by first | omega | (simp; done) | (simp; omega)) ?_; intro v7 w7 hO7 hb7 hF7))
      obtain ⟨L1, hQ1, hL1, hx1, hbd1⟩ : ∃ L1 : List Int, Q4 w p w1.heap.size (w1.heap.size + 1) A Bq c d N v7 u8 u9 u10 L1 l2 l3 l4 w7 ∧ L1.length = k + 1 ∧ L1[k]? = some r1 ∧ (∀ x ∈ L1, 0 ≤ x ∧ x < 30) :=
        ⟨l1 ++ [r1], (H3.out.below (Below.alloc (Below.refl _ _) (Nat.le_refl _) _)).app1 hp (by simpa using hO7) hb7 hF7, by simp [HLE.out.e1], by simp [← HLE.out.e1], fun x hx => by
          rcases List.mem_append.1 hx with h1 | h1
          · exact HLE.out.b1 x h1
          · rw [List.mem_singleton.1 h1]; omega⟩
      have HQ1 := Lib.hid hQ1
      have HX1 := Lib.hid hx1
      have HBD1 := Lib.hid hbd1
      have HL1 := Lib.hid hL1
      have gk1 : (k : Int) < (L1.length : Int) := by omega
      obtain ⟨g1, cc1, rfl, hg1, hgl1, T1⟩ := hQ1.cell1 hx1
      have hO2 := Lib.hid hQ1.o2
      have hsz7 := hQ1.sz
      clear hO7 hF7 hb7 H3 hQ1 hx1 hbd1 hL1
      go_wp2_with fail
      refine wp_region_tb (R := Zr) [some 34, some 35, some 36, some 37, some 38, some 39, some 40, some 41, some 42, some 43, some 8] _ (by intro u; simp only [frs, Act.put, List.setIfInBounds_toArray, List.set_cons_zero, List.set_cons_succ, Nat.reduceAdd]; exact rfl) (fun ρ j => ([u8, .slice (some ⟨g1, 0, none⟩) L1.length cc1, .int .i64 (k : Int), .pointer (some ⟨g1, k, none⟩), .int .i64 r1, .pointer (some ⟨p, 0, none⟩), .int .i64 (ρ.r 6), .int .i64 (r1 + ρ.r 6), .slice (some ⟨ρ.b 8, 0, none⟩) 1 1, ρ.v, ρ.v] : List Value).getD j undef) (WAp p (w1.heap.size + 1) 6 8 9 300 u8 l2.length (l2.map iV) (fun r => r1 + r) w7) (by kernel_rfl) (by kernel_rfl) Zr.zero (WAp.start (Keep.of_below _ (Below.drew (Below.refl _ _))) (HQ1.out.src.below (Below.drew (Below.refl _ _)))) ?_ ?_
      · intro ii hii L ρ u wx hl hp hc hu hn hW
        have hii : ii < 11 := hii
        have HNo := Lib.hid hn
        clear hn
        have hii : ii = 0 ∨ ii = 1 ∨ ii = 2 ∨ ii = 3 ∨ ii = 4 ∨ ii = 5 ∨ ii = 6 ∨ ii = 7 ∨ ii = 8 ∨ ii = 9 ∨ ii = 10 := by omega
        rcases hii with rfl | rfl | rfl | rfl | rfl | rfl | rfl | rfl | rfl | rfl | rfl
        · have n10 : L 10 = false := no_later hc hl (by kernel_rfl)
          have e10 : u 10 = u8 := HNo.out 10 n10
          refine wpOp_go (E := True) rfl rfl (fun K' hK => ?_)
          go_simp
          refine hK.out _ _ ⟨ρ, (by simp only [put, e10]; rfl), fun _ _ => rfl, hW.pure (by omega) (by omega) (by omega)⟩
        · refine wpOp_go (E := True) rfl rfl (fun K' hK => ?_)
          go_simp
          refine hK.out _ _ ⟨ρ, (by simp only [put]; rfl), fun _ _ => rfl, hW.pure (by omega) (by omega) (by omega)⟩
        · refine wpOp_go (E := True) rfl rfl (fun K' hK => ?_)
          go_simp
          refine hK.out _ _ ⟨ρ, (by simp only [put]; rfl), fun _ _ => rfl, hW.pure (by omega) (by omega) (by omega)⟩
        · have e1 : u 1 = .slice (some ⟨g1, 0, none⟩) L1.length cc1 := hu 1 (all_of hp (by kernel_rfl))
          have e2 : u 2 = .int .i64 (k : Int) := hu 2 (all_of hp (by kernel_rfl))
          refine wpOp_go (E := True) rfl rfl (fun K' hK => ?_)
          go_simp
          refine hK.out _ _ ⟨ρ, (by simp only [put, e1, e2]; rfl), fun _ _ => rfl, hW.pure (by omega) (by omega) (by omega)⟩
        · have e3 : u 3 = .pointer (some ⟨g1, k, none⟩) := hu 3 (all_of hp (by kernel_rfl))
          have n7 : L 7 = false := no_later hc hl (by kernel_rfl)
          have n8 : L 8 = false := no_later hc n7 (by kernel_rfl)
          have n9 : L 9 = false := no_later hc n8 (by kernel_rfl)
          have y0 := ((hW.a n9).1.cell g1 k hgl1 (by omega)).trans T1
          refine wpOp_go (E := True) rfl rfl (fun K' hK => ?_)
          go_simp
          refine hK.out _ _ ⟨ρ, (by simp only [put, e3]; rfl), fun _ _ => rfl, hW.pure (by omega) (by omega) (by omega)⟩
        · refine wpOp_go (E := True) rfl rfl (fun K' hK => ?_)
          go_simp
          refine hK.out _ _ ⟨ρ, (by simp only [put]; rfl), fun _ _ => rfl, hW.pure (by omega) (by omega) (by omega)⟩
        · have e5 : u 5 = .pointer (some ⟨p, 0, none⟩) := hu 5 (all_of hp (by kernel_rfl))
          refine wpOp_go (E := True) rfl rfl (fun K' hK => ?_)
          go_simp
          go_at_call 26
          have n7 : L 7 = false := no_later hc hl (by kernel_rfl)
          have n8 : L 8 = false := no_later hc n7 (by kernel_rfl)
          have n9 : L 9 = false := no_later hc n8 (by kernel_rfl)
          refine (spec_l01Next _ _ _ (hW.a n9).2 (by omega)).mono ?_
          rintro e' w5 ⟨r, rfl, ra, _, rb, hs5, hk5⟩
          have rc := rb (by omega)
          refine hK.out _ _ ⟨ρ.drawn 6 r, (by simp only [put, e5]; rfl), fun j hj => by
              have n7 : L 7 = false := no_later hc hl (by kernel_rfl)
              have n8 : L 8 = false := no_later hc n7 (by kernel_rfl)
              have n9 : L 9 = false := no_later hc n8 (by kernel_rfl)
              have n10 : L 10 = false := no_later hc n9 (by kernel_rfl)
              match j, hj with
              | 0, _ => rfl
              | 1, _ => rfl
              | 2, _ => rfl
              | 3, _ => rfl
              | 4, _ => rfl
              | 5, _ => rfl
              | 6, hj => rw [hl] at hj; cases hj
              | 7, hj => rw [n7] at hj; cases hj
              | 8, hj => rw [n8] at hj; cases hj
              | 9, hj => rw [n9] at hj; cases hj
              | 10, hj => rw [n10] at hj; cases hj
              | _ + 11, _ => rfl, hW.call (by omega) (by omega) n8 n9 hk5 hs5 ra rc⟩
        · have e4 : u 4 = .int .i64 r1 := hu 4 (all_of hp (by kernel_rfl))
          have e6 : u 6 = .int .i64 (ρ.r 6) := hu 6 (all_of hp (by kernel_rfl))
          obtain ⟨ra, rb⟩ := hW.dr (all_of hp (by kernel_rfl))
          have hwr := IntWalk.i64_in (r1 + ρ.r 6) ⟨by omega, by omega⟩
          refine wpOp_go (E := True) rfl rfl (fun K' hK => ?_)
          go_simp
          refine hK.out _ _ ⟨ρ, (by simp only [put, e4, e6, hwr]; rfl), fun _ _ => rfl, hW.pure (by omega) (by omega) (by omega)⟩
        · have e7 : u 7 = .int .i64 (r1 + ρ.r 6) := hu 7 (all_of hp (by kernel_rfl))
          refine wpOp_go (E := True) rfl rfl (fun K' hK => ?_)
          go_simp
          have n9 : L 9 = false := no_later hc hl (by kernel_rfl)
          refine hK.out _ _ ⟨ρ.made 8 wx.heap.size [], (by simp only [put, e7]; rfl), fun j hj => by
              have n9 : L 9 = false := no_later hc hl (by kernel_rfl)
              have n10 : L 10 = false := no_later hc n9 (by kernel_rfl)
              match j, hj with
              | 0, _ => rfl
              | 1, _ => rfl
              | 2, _ => rfl
              | 3, _ => rfl
              | 4, _ => rfl
              | 5, _ => rfl
              | 6, _ => rfl
              | 7, _ => rfl
              | 8, hj => rw [hl] at hj; cases hj
              | 9, hj => rw [n9] at hj; cases hj
              | 10, hj => rw [n10] at hj; cases hj
              | _ + 11, _ => rfl, hW.made (by omega) (by omega) n9 (by (repeat' (first | (with_reducible exact Below.refl _ _) | (with_reducible assumption) | (with_reducible refine Below.alloc ?_ ?_ _) | (with_reducible refine Below.drew ?_) | (with_reducible refine Below.drewN' ?_ _) | (with_reducible refine Below.setCell ?_ ?_ _) | (refine Below.via ?_ (by with_reducible assumption) ?_) | (with_reducible refine Below.via ?_ (Wd.h _) ?_) | go_size))) (bx1 (by simp) (by simp) (by simp))⟩
        · have e0 : u 0 = u8 := hu 0 (all_of hp (by kernel_rfl))
          have e8 : u 8 = .slice (some ⟨ρ.b 8, 0, none⟩) 1 1 := hu 8 (all_of hp (by kernel_rfl))
          have hzx := (hW.a hl).1.size
          refine wpOp_go (E := True) rfl rfl (fun K' hK => ?_)
          refine step_of rfl (app1x _ (.tmp 34) (.tmp 42) 28 rfl (w1.heap.size + 1) info_i64 Try.underlying28 rfl (by omega) (by omega) u8 l2.length _ e0 (hO2.out.keepp (hW.a hl).1 (by omega)) (ρ.b 8) 1 1 [iV (r1 + ρ.r 6)] e8 rfl (fun jj y hy => (hW.li hl (all_of hp (by kernel_rfl))).2.cell jj hy) (by simp [Value.oneCell']) (by omega) (by omega) (by omega) ?_)
          intro v' w' hO' hb' hf'
          refine hK.out _ _ ⟨⟨ρ.b, ρ.r, ρ.c, v'⟩, (by simp only [put]; rfl), fun j hj => by
              have n10 : L 10 = false := no_later hc hl (by kernel_rfl)
              match j, hj with
              | 0, _ => rfl
              | 1, _ => rfl
              | 2, _ => rfl
              | 3, _ => rfl
              | 4, _ => rfl
              | 5, _ => rfl
              | 6, _ => rfl
              | 7, _ => rfl
              | 8, _ => rfl
              | 9, hj => rw [hl] at hj; cases hj
              | 10, hj => rw [n10] at hj; cases hj
              | _ + 11, _ => rfl, hW.app (by omega) (by omega) hl hO' hb' hf'⟩
        · have e9 : u 9 = ρ.v := hu 9 (all_of hp (by kernel_rfl))
          refine wpOp_go (E := True) rfl rfl (fun K' hK => ?_)
          go_simp
          refine hK.out _ _ ⟨ρ, (by simp only [put, e9]; rfl), fun _ _ => rfl, hW.pure (by omega) (by omega) (by omega)⟩
      · intro L ρ u wx hall hu hW
        rename World => w9
        obtain ⟨w8, hk8, hs8, hO8, hb8, hf8⟩ := hW.b (hall 9 (by show 9 < 11; omega))
        obtain ⟨ra8, rb8⟩ := hW.dr (hall 6 (by show 6 < 11; omega))
        have e10 : u 10 = ρ.v := hu 10 (by show 10 < 11; omega)
        rw [e10]
        obtain ⟨L2, hQ2, hL2, hx2, hbd2⟩ : ∃ L2 : List Int, Q4 w p w1.heap.size (w1.heap.size + 1) A Bq c d N (.slice (some ⟨g1, 0, none⟩) L1.length cc1) ρ.v u9 u10 L1 L2 l3 l4 w9 ∧ L2.length = k + 1 ∧ L2[k]? = some (r1 + ρ.r 6) ∧ (∀ x ∈ L2, 0 ≤ x ∧ x < 330) :=
          ⟨l2 ++ [r1 + ρ.r 6], (HQ1.out.keep hp hk8 hs8).app2 hp (by simpa using hO8) hb8 hf8, by simp [HLE.out.e2], by simp [← HLE.out.e2], fun x hx => by
            rcases List.mem_append.1 hx with h1 | h1
            · exact HLE.out.b2 x h1
            · rw [List.mem_singleton.1 h1]; omega⟩
        clear hu hall hW e10 hk8 hs8 hO8 hb8 hf8 HQ1 T1 hO2 hgl1
        generalize ρ.v = v8 at *
        generalize ρ.r 6 = r2 at *
        have HQ2 := Lib.hid hQ2
        have HX2 := Lib.hid hx2
        have HBD2 := Lib.hid hbd2
        have HL2 := Lib.hid hL2
        have gk2 : (k : Int) < (L2.length : Int) := by omega
        obtain ⟨g2, cc2, rfl, hg2, hgl2, T2⟩ := hQ2.cell2 hx2
        obtain ⟨hgl1, T1⟩ := HQ2.out.at1 HX1.out
        have hO3 := Lib.hid hQ2.o3
        have hsz8 := hQ2.sz
        clear hQ2 hx2 hbd2 hL2
        go_wp2_with fail
        refine wp_region_tb (R := Zr) [some 44, some 45, some 46, some 47, some 48, some 49, some 50, some 51, some 52, some 53, some 54, some 55, some 56, some 57, some 58, some 59, some 60, some 61, some 62, some 63, some 9] _ (by intro u; simp only [frs, Act.put, List.setIfInBounds_toArray, List.set_cons_zero, List.set_cons_succ, Nat.reduceAdd]; exact rfl) (fun ρ j => ([u9, .slice (some ⟨g1, 0, none⟩) L1.length cc1, .int .i64 (k : Int), .pointer (some ⟨g1, k, none⟩), .int .i64 r1, .pointer (some ⟨p, 0, none⟩), .slice (some ⟨g2, 0, none⟩) L2.length cc2, .int .i64 (k : Int), .pointer (some ⟨g2, k, none⟩), .int .i64 (r1 + r2), .slice (some ⟨g1, 0, none⟩) L1.length cc1, .int .i64 (k : Int), .pointer (some ⟨g1, k, none⟩), .int .i64 r1, .int .i64 (r1 + r2 - r1), .int .i64 (r1 + r2 - r1 + 1), .int .i64 (ρ.r 16), .int .i64 (r1 + ρ.r 16), .slice (some ⟨ρ.b 18, 0, none⟩) 1 1, ρ.v, ρ.v] : List Value).getD j undef) (WAp p (w1.heap.size + 1) 16 18 19 300 u9 l3.length (l3.map iV) (fun r => r1 + r) w9) (by kernel_rfl) (by kernel_rfl) Zr.zero (WAp.start (Keep.of_below _ (Below.drew (Below.refl _ _))) (HQ2.out.src.below (Below.drew (Below.refl _ _)))) ?_ ?_
        · intro ii hii L ρ u wx hl hp hc hu hn hW
          have hii : ii < 21 := hii
          have HNo := Lib.hid hn
          clear hn
          have hii : ii = 0 ∨ ii = 1 ∨ ii = 2 ∨ ii = 3 ∨ ii = 4 ∨ ii = 5 ∨ ii = 6 ∨ ii = 7 ∨ ii = 8 ∨ ii = 9 ∨ ii = 10 ∨ ii = 11 ∨ ii = 12 ∨ ii = 13 ∨ ii = 14 ∨ ii = 15 ∨ ii = 16 ∨ ii = 17 ∨ ii = 18 ∨ ii = 19 ∨ ii = 20 := by omega
          rcases hii with rfl | rfl | rfl | rfl | rfl | rfl | rfl | rfl | rfl | rfl | rfl | rfl | rfl | rfl | rfl | rfl | rfl | rfl | rfl | rfl | rfl
          · have n20 : L 20 = false := no_later hc hl (by kernel_rfl)
            have e20 : u 20 = u9 := HNo.out 20 n20
            refine wpOp_go (E := True) rfl rfl (fun K' hK => ?_)
            go_simp
            refine hK.out _ _ ⟨ρ, (by simp only [put, e20]; rfl), fun _ _ => rfl, hW.pure (by omega) (by omega) (by omega)⟩
          · refine wpOp_go (E := True) rfl rfl (fun K' hK => ?_)
            go_simp
            refine hK.out _ _ ⟨ρ, (by simp only [put]; rfl), fun _ _ => rfl, hW.pure (by omega) (by omega) (by omega)⟩
          · refine wpOp_go (E := True) rfl rfl (fun K' hK => ?_)
            go_simp
            refine hK.out _ _ ⟨ρ, (by simp only [put]; rfl), fun _ _ => rfl, hW.pure (by omega) (by omega) (by omega)⟩
          · have e1 : u 1 = .slice (some ⟨g1, 0, none⟩) L1.length cc1 := hu 1 (all_of hp (by kernel_rfl))
            have e2 : u 2 = .int .i64 (k : Int) := hu 2 (all_of hp (by kernel_rfl))
            refine wpOp_go (E := True) rfl rfl (fun K' hK => ?_)
            go_simp
            refine hK.out _ _ ⟨ρ, (by simp only [put, e1, e2]; rfl), fun _ _ => rfl, hW.pure (by omega) (by omega) (by omega)⟩
          · have e3 : u 3 = .pointer (some ⟨g1, k, none⟩) := hu 3 (all_of hp (by kernel_rfl))
            have n17 : L 17 = false := no_later hc hl (by kernel_rfl)
            have n18 : L 18 = false := no_later hc n17 (by kernel_rfl)
            have n19 : L 19 = false := no_later hc n18 (by kernel_rfl)
            have y0 := ((hW.a n19).1.cell g1 k hgl1 (by omega)).trans T1
            refine wpOp_go (E := True) rfl rfl (fun K' hK => ?_)
            go_simp
            refine hK.out _ _ ⟨ρ, (by simp only [put, e3]; rfl), fun _ _ => rfl, hW.pure (by omega) (by omega) (by omega)⟩
          · refine wpOp_go (E := True) rfl rfl (fun K' hK => ?_)
            go_simp
            refine hK.out _ _ ⟨ρ, (by simp only [put]; rfl), fun _ _ => rfl, hW.pure (by omega) (by omega) (by omega)⟩
          · refine wpOp_go (E := True) rfl rfl (fun K' hK => ?_)
            go_simp
            refine hK.out _ _ ⟨ρ, (by simp only [put]; rfl), fun _ _ => rfl, hW.pure (by omega) (by omega) (by omega)⟩
          · refine wpOp_go (E := True) rfl rfl (fun K' hK => ?_)
            go_simp
            refine hK.out _ _ ⟨ρ, (by simp only [put]; rfl), fun _ _ => rfl, hW.pure (by omega) (by omega) (by omega)⟩
          · have e6 : u 6 = .slice (some ⟨g2, 0, none⟩) L2.length cc2 := hu 6 (all_of hp (by kernel_rfl))
            have e7 : u 7 = .int .i64 (k : Int) := hu 7 (all_of hp (by kernel_rfl))
            refine wpOp_go (E := True) rfl rfl (fun K' hK => ?_)
            go_simp
            refine hK.out _ _ ⟨ρ, (by simp only [put, e6, e7]; rfl), fun _ _ => rfl, hW.pure (by omega) (by omega) (by omega)⟩
          · have e8 : u 8 = .pointer (some ⟨g2, k, none⟩) := hu 8 (all_of hp (by kernel_rfl))
            have n14 : L 14 = false := no_later hc hl (by kernel_rfl)
            have n15 : L 15 = false := no_later hc n14 (by kernel_rfl)
            have n16 : L 16 = false := no_later hc n15 (by kernel_rfl)
            have n17 : L 17 = false := no_later hc n16 (by kernel_rfl)
            have n18 : L 18 = false := no_later hc n17 (by kernel_rfl)
            have n19 : L 19 = false := no_later hc n18 (by kernel_rfl)
            have y0 := ((hW.a n19).1.cell g2 k hgl2 (by omega)).trans T2
            refine wpOp_go (E := True) rfl rfl (fun K' hK => ?_)
            go_simp
            refine hK.out _ _ ⟨ρ, (by simp only [put, e8]; rfl), fun _ _ => rfl, hW.pure (by omega) (by omega) (by omega)⟩
          · refine wpOp_go (E := True) rfl rfl (fun K' hK => ?_)
            go_simp
            refine hK.out _ _ ⟨ρ, (by simp only [put]; rfl), fun _ _ => rfl, hW.pure (by omega) (by omega) (by omega)⟩
          · refine wpOp_go (E := True) rfl rfl (fun K' hK => ?_)
            go_simp
            refine hK.out _ _ ⟨ρ, (by simp only [put]; rfl), fun _ _ => rfl, hW.pure (by omega) (by omega) (by omega)⟩
          · have e10 : u 10 = .slice (some ⟨g1, 0, none⟩) L1.length cc1 := hu 10 (all_of hp (by kernel_rfl))
            have e11 : u 11 = .int .i64 (k : Int) := hu 11 (all_of hp (by kernel_rfl))
            refine wpOp_go (E := True) rfl rfl (fun K' hK => ?_)
            go_simp
            refine hK.out _ _ ⟨ρ, (by simp only [put, e10, e11]; rfl), fun _ _ => rfl, hW.pure (by omega) (by omega) (by omega)⟩
          · have e12 : u 12 = .pointer (some ⟨g1, k, none⟩) := hu 12 (all_of hp (by kernel_rfl))
            have n14 : L 14 = false := no_later hc hl (by kernel_rfl)
            have n15 : L 15 = false := no_later hc n14 (by kernel_rfl)
            have n16 : L 16 = false := no_later hc n15 (by kernel_rfl)
            have n17 : L 17 = false := no_later hc n16 (by kernel_rfl)
            have n18 : L 18 = false := no_later hc n17 (by kernel_rfl)
            have n19 : L 19 = false := no_later hc n18 (by kernel_rfl)
            have y0 := ((hW.a n19).1.cell g1 k hgl1 (by omega)).trans T1
            refine wpOp_go (E := True) rfl rfl (fun K' hK => ?_)
            go_simp
            refine hK.out _ _ ⟨ρ, (by simp only [put, e12]; rfl), fun _ _ => rfl, hW.pure (by omega) (by omega) (by omega)⟩
          · have e9 : u 9 = .int .i64 (r1 + r2) := hu 9 (all_of hp (by kernel_rfl))
            have e13 : u 13 = .int .i64 r1 := hu 13 (all_of hp (by kernel_rfl))
            have hwr := IntWalk.i64_in (r1 + r2 - r1) ⟨by omega, by omega⟩
            refine wpOp_go (E := True) rfl rfl (fun K' hK => ?_)
            go_simp
            refine hK.out _ _ ⟨ρ, (by simp only [put, e9, e13, hwr]; rfl), fun _ _ => rfl, hW.pure (by omega) (by omega) (by omega)⟩
          · have e14 : u 14 = .int .i64 (r1 + r2 - r1) := hu 14 (all_of hp (by kernel_rfl))
            have hwr := IntWalk.i64_in (r1 + r2 - r1 + 1) ⟨by omega, by omega⟩
            refine wpOp_go (E := True) rfl rfl (fun K' hK => ?_)
            go_simp
            refine hK.out _ _ ⟨ρ, (by simp only [put, e14, hwr]; rfl), fun _ _ => rfl, hW.pure (by omega) (by omega) (by omega)⟩
          · have e5 : u 5 = .pointer (some ⟨p, 0, none⟩) := hu 5 (all_of hp (by kernel_rfl))
            have e15 : u 15 = .int .i64 (r1 + r2 - r1 + 1) := hu 15 (all_of hp (by kernel_rfl))
            refine wpOp_go (E := True) rfl rfl (fun K' hK => ?_)
            go_simp
            go_at_call 26
            have n17 : L 17 = false := no_later hc hl (by kernel_rfl)
            have n18 : L 18 = false := no_later hc n17 (by kernel_rfl)
            have n19 : L 19 = false := no_later hc n18 (by kernel_rfl)
            refine (spec_l01Next _ _ _ (hW.a n19).2 (by omega)).mono ?_
            rintro e' w5 ⟨r, rfl, ra, rz, rb, hs5, hk5⟩
            have rc : r < 300 := by by_cases h1 : (r1 + r2 - r1 + 1) ≤ 1; (have := rz h1; omega); (have := rb (by omega); omega)
            refine hK.out _ _ ⟨ρ.drawn 16 r, (by simp only [put, e5, e15]; rfl), fun j hj => by
                have n17 : L 17 = false := no_later hc hl (by kernel_rfl)
                have n18 : L 18 = false := no_later hc n17 (by kernel_rfl)
                have n19 : L 19 = false := no_later hc n18 (by kernel_rfl)
                have n20 : L 20 = false := no_later hc n19 (by kernel_rfl)
                match j, hj with
                | 0, _ => rfl
                | 1, _ => rfl
                | 2, _ => rfl
                | 3, _ => rfl
                | 4, _ => rfl
                | 5, _ => rfl
                | 6, _ => rfl
                | 7, _ => rfl
                | 8, _ => rfl
                | 9, _ => rfl
                | 10, _ => rfl
                | 11, _ => rfl
                | 12, _ => rfl
                | 13, _ => rfl
                | 14, _ => rfl
                | 15, _ => rfl
                | 16, hj => rw [hl] at hj; cases hj
                | 17, hj => rw [n17] at hj; cases hj
                | 18, hj => rw [n18] at hj; cases hj
                | 19, hj => rw [n19] at hj; cases hj
                | 20, hj => rw [n20] at hj; cases hj
                | _ + 21, _ => rfl, hW.call (by omega) (by omega) n18 n19 hk5 hs5 ra rc⟩
          · have e4 : u 4 = .int .i64 r1 := hu 4 (all_of hp (by kernel_rfl))
            have e16 : u 16 = .int .i64 (ρ.r 16) := hu 16 (all_of hp (by kernel_rfl))
            obtain ⟨ra, rb⟩ := hW.dr (all_of hp (by kernel_rfl))
            have hwr := IntWalk.i64_in (r1 + ρ.r 16) ⟨by omega, by omega⟩
            refine wpOp_go (E := True) rfl rfl (fun K' hK => ?_)
            go_simp
            refine hK.out _ _ ⟨ρ, (by simp only [put, e4, e16, hwr]; rfl), fun _ _ => rfl, hW.pure (by omega) (by omega) (by omega)⟩
          · have e17 : u 17 = .int .i64 (r1 + ρ.r 16) := hu 17 (all_of hp (by kernel_rfl))
            refine wpOp_go (E := True) rfl rfl (fun K' hK => ?_)
            go_simp
            have n19 : L 19 = false := no_later hc hl (by kernel_rfl)
            refine hK.out _ _ ⟨ρ.made 18 wx.heap.size [], (by simp only [put, e17]; rfl), fun j hj => by
                have n19 : L 19 = false := no_later hc hl (by kernel_rfl)
                have n20 : L 20 = false := no_later hc n19 (by kernel_rfl)
                match j, hj with
                | 0, _ => rfl
                | 1, _ => rfl
                | 2, _ => rfl
                | 3, _ => rfl
                | 4, _ => rfl
                | 5, _ => rfl
                | 6, _ => rfl
                | 7, _ => rfl
                | 8, _ => rfl
                | 9, _ => rfl
                | 10, _ => rfl
                | 11, _ => rfl
                | 12, _ => rfl
                | 13, _ => rfl
                | 14, _ => rfl
                | 15, _ => rfl
                | 16, _ => rfl
                | 17, _ => rfl
                | 18, hj => rw [hl] at hj; cases hj
                | 19, hj => rw [n19] at hj; cases hj
                | 20, hj => rw [n20] at hj; cases hj
                | _ + 21, _ => rfl, hW.made (by omega) (by omega) n19 (by (repeat' (first | (with_reducible exact Below.refl _ _) | (with_reducible assumption) | (with_reducible refine Below.alloc ?_ ?_ _) | (with_reducible refine Below.drew ?_) | (with_reducible refine Below.drewN' ?_ _) | (with_reducible refine Below.setCell ?_ ?_ _) | (refine Below.via ?_ (by with_reducible assumption) ?_) | (with_reducible refine Below.via ?_ (Wd.h _) ?_) | go_size))) (bx1 (by simp) (by simp) (by simp))⟩
          · have e0 : u 0 = u9 := hu 0 (all_of hp (by kernel_rfl))
            have e18 : u 18 = .slice (some ⟨ρ.b 18, 0, none⟩) 1 1 := hu 18 (all_of hp (by kernel_rfl))
            have hzx := (hW.a hl).1.size
            refine wpOp_go (E := True) rfl rfl (fun K' hK => ?_)
            refine step_of rfl (app1x _ (.tmp 44) (.tmp 62) 28 rfl (w1.heap.size + 1) info_i64 Try.underlying28 rfl (by omega) (by omega) u9 l3.length _ e0 (hO3.out.keepp (hW.a hl).1 (by omega)) (ρ.b 18) 1 1 [iV (r1 + ρ.r 16)] e18 rfl (fun jj y hy => (hW.li hl (all_of hp (by kernel_rfl))).2.cell jj hy) (by simp [Value.oneCell']) (by omega) (by omega) (by omega) ?_)
            intro v' w' hO' hb' hf'
            refine hK.out _ _ ⟨⟨ρ.b, ρ.r, ρ.c, v'⟩, (by simp only [put]; rfl), fun j hj => by
                have n20 : L 20 = false := no_later hc hl (by kernel_rfl)
                match j, hj with
                | 0, _ => rfl
                | 1, _ => rfl
                | 2, _ => rfl
                | 3, _ => rfl
                | 4, _ => rfl
                | 5, _ => rfl
                | 6, _ => rfl
                | 7, _ => rfl
                | 8, _ => rfl
                | 9, _ => rfl
                | 10, _ => rfl
                | 11, _ => rfl
                | 12, _ => rfl
                | 13, _ => rfl
                | 14, _ => rfl
                | 15, _ => rfl
                | 16, _ => rfl
                | 17, _ => rfl
                | 18, _ => rfl
                | 19, hj => rw [hl] at hj; cases hj
                | 20, hj => rw [n20] at hj; cases hj
                | _ + 21, _ => rfl, hW.app (by omega) (by omega) hl hO' hb' hf'⟩
          · have e19 : u 19 = ρ.v := hu 19 (all_of hp (by kernel_rfl))
            refine wpOp_go (E := True) rfl rfl (fun K' hK => ?_)
            go_simp
            refine hK.out _ _ ⟨ρ, (by simp only [put, e19]; rfl), fun _ _ => rfl, hW.pure (by omega) (by omega) (by omega)⟩
        · intro L ρ u wx hall hu hW
          rename World => w11
          obtain ⟨w10, hk8, hs8, hO8, hb8, hf8⟩ := hW.b (hall 19 (by show 19 < 21; omega))
          have e20 : u 20 = ρ.v := hu 20 (by show 20 < 21; omega)
          rw [e20]
          obtain ⟨L3, hQ3, hL3⟩ : ∃ L3 : List Int, Q4 w p w1.heap.size (w1.heap.size + 1) A Bq c d N (.slice (some ⟨g1, 0, none⟩) L1.length cc1) (.slice (some ⟨g2, 0, none⟩) L2.length cc2) ρ.v u10 L1 L2 L3 l4 w11 ∧ L3.length = k + 1 :=
            ⟨l3 ++ [r1 + ρ.r 16], (HQ2.out.keep hp hk8 hs8).app3 hp (by simpa using hO8) hb8 hf8, by simp [HLE.out.e3]⟩
          clear hu hall hW e20 hk8 hs8 hO8 hb8 hf8 HQ2 T1 T2 hO3 hgl1 hgl2
          generalize ρ.v = v9 at *
          have HQ3 := Lib.hid hQ3
          have HL3 := Lib.hid hL3
          clear hQ3 hL3
          go_wp2_with fail
          refine (spec_l01Next p _ _ HQ3.out.src (by omega)).mono ?_
          rintro e w12 ⟨r4, rfl, ra4, _, rb4, hs12, hk12⟩
          have rc4 := rb4 (by omega)
          have HQ4 := Lib.hid (HQ3.out.keep hp hk12 hs12)
          have hsz12 := HQ4.out.sz
          clear hs12 hk12 rb4 HQ3
          go_wp2_with ((at_builtin; refine wp_app1x _ rfl (.tmp 64) (.tmp 68) 28 rfl (w1.heap.size + 1) info_i64 Try.underlying28 rfl (by omega) (by omega) _ _ _ rfl (HQ4.out.o4.alloc _) _ 1 1 [iV (r4 - 20)] rfl rfl (by intro j u hu; match j, hu with | 0, hu => (simp at hu; subst hu; first | (simp; done) | exact cell_newF _ _ _ _ _ _ (by simp) rfl) | j + 1, hu => simp at hu) (by simp [Value.oneCell']) (by omega) (by omega) (by first | omega | (simp; done) | (simp; omega)) ?_; intro v7 w7 hO7 hb7 hF7))
          have HQ5 := Lib.hid ((HQ4.out.below (Below.alloc (Below.refl _ _) (Nat.le_refl _) _)).app4 (l' := l4 ++ [r4 - 20]) hp (by simpa using hO7) hb7 hF7)
          clear hO7 hb7 hF7 HQ4
          go_roundw
          case rel => exact ⟨k + 1, L1, L2, L3, l4 ++ [r4 - 20], by go_num, by omega, ⟨HL1.out, HL2.out, HL3.out, by simp [HLE.out.e4], HBD1.out, HBD2.out⟩, HQ5.out⟩
          case measure => first | (simp [intOf]; done) | (simp [intOf]; omega)
    · have g1 : ¬ (k : Int) < (N.nodes.length : Int) := by omega
      go_wp2_with fail
      clear cw7_0 cw7_1 fw7_0 fw7_1 hy7
      go_loopw [12] (fun t wv => ∃ (m : Nat) (N' : Net), t = .int .i64 m ∧ m ≤ N'.pipes.length ∧ SameN N N' ∧ Q4 w p w1.heap.size (w1.heap.size + 1) A Bq c d N' u7 u8 u9 u10 l1 l2 l3 l4 wv) (fun t _ => N.pipes.length - (intOf t).toNat)
      case atStart => exact ⟨0, N, rfl, by omega, ⟨rfl, rfl⟩, HI.out⟩
      case round =>
        clear HI hsz
        rename World => wq
        obtain ⟨m, N', rfl, hm, hsn, hI⟩ := hrel
        have HI := Lib.hid hI
        have HSN := Lib.hid hsn
        have hsz := hI.sz
        have hbX := hI.bX
        have hy7 := hbX.lt; have cw7_0 := hbX.cell 0 rfl; have fw7_0 := hbX.frozen 0 rfl; have cw7_1 := hbX.cell 1 rfl; have fw7_1 := hbX.frozen 1 rfl
        have hnn : N'.nodes.length ≤ 7 := by have := hsn.n; omega
        have hmm : N'.pipes.length ≤ 11 := by have := hsn.m; omega
        have hmn : N'.pipes.length ≤ N.pipes.length := by have := hsn.m; omega
        clear hI hbX hsn
        by_cases hlt : m < N'.pipes.length
        · have g2 : (m : Int) < (N'.pipes.length : Int) := by omega
          go_wp2_with fail
          refine (spec_l01Next p _ _ HI.out.src (by omega)).mono ?_
          rintro e w3 ⟨z, rfl, za, _, zb, hs3, hk3⟩
          have HQ := Lib.hid (HI.out.keep hp hk3 hs3)
          clear hs3 hk3 zb HI cw7_0 cw7_1 fw7_0 fw7_1 hy7
          by_cases z0 : 0 < z
          · have b0 : decide (0 < z) = true := by simpa using z0
            obtain ⟨gp, dd, hbq, hgp, -, hAr⟩ := HQ.out.pp.arr (by omega)
            injection hbq with hbq1 hbq2 hbq3
            obtain ⟨x, hx⟩ := get_some hlt
            have hcl := hAr.cell (j := m * 5 + 4) (v := .int .i64 x.lim) (ppx hx)
            have hfz := hAr.free (j := m * 5 + 4) (by omega)
            have hgl := hAr.lt
            subst hbq1
            have HX := Lib.hid hx
            clear hAr hx hbq2 hbq3
            go_wp2_with fail
            refine wp_region_tb (R := Zr) [some 80, some 81, some 82, some 83, some 84, some 85, some 86, some 87, some 88, some 89, some 90, some 91, some 92, none] _ (by intro u; simp only [frs, Act.put, List.setIfInBounds_toArray, List.set_cons_zero, List.set_cons_succ, Nat.reduceAdd]; exact rfl) (fun ρ j => ([.pointer (some ⟨w1.heap.size, 1, none⟩), .slice (some ⟨gp, 0, none⟩) N'.pipes.length d, .int .i64 (m : Int), .pointer (some ⟨w1.heap.size, 1, none⟩), .slice (some ⟨gp, 0, none⟩) N'.pipes.length d, .int .i64 (m : Int), .pointer (some ⟨gp, m * 5, none⟩), .pointer (some ⟨gp, m * 5 + 4, none⟩), .int .i64 x.lim, .int .i64 (IntKind.i64.wrap (x.lim + 30)), .int .i64 (min 30000 (IntKind.i64.wrap (x.lim + 30))), .pointer (some ⟨gp, m * 5, none⟩), .pointer (some ⟨gp, m * 5 + 4, none⟩), undef] : List Value).getD j undef) (WSt 13 (fun wt => wt = w3.drew) (fun wt => wt = w3.drew.setCell ⟨gp, m * 5 + 4, none⟩ (.int .i64 (min 30000 (IntKind.i64.wrap (x.lim + 30)))))) (by kernel_rfl) (by kernel_rfl) Zr.zero (WSt.start rfl) ?_ ?_
            · intro ii hii L ρ u wx hl hp hc hu hn hW
              have hii : ii < 14 := hii
              have HNo := Lib.hid hn
              clear hn
              have hii : ii = 0 ∨ ii = 1 ∨ ii = 2 ∨ ii = 3 ∨ ii = 4 ∨ ii = 5 ∨ ii = 6 ∨ ii = 7 ∨ ii = 8 ∨ ii = 9 ∨ ii = 10 ∨ ii = 11 ∨ ii = 12 ∨ ii = 13 := by omega
              rcases hii with rfl | rfl | rfl | rfl | rfl | rfl | rfl | rfl | rfl | rfl | rfl | rfl | rfl | rfl
              · refine wpOp_go (E := True) rfl rfl (fun K' hK => ?_)
                go_simp
                refine hK.out _ _ ⟨ρ, (by simp only [put]; rfl), fun _ _ => rfl, hW.pure (by omega)⟩
              · have e0 : u 0 = .pointer (some ⟨w1.heap.size, 1, none⟩) := hu 0 (all_of hp (by kernel_rfl))
                have hw := hW.t0 (no_later (i := 12) hc (no_later (i := 11) hc (no_later hc hl (by kernel_rfl)) (by kernel_rfl)) (by kernel_rfl))
                subst hw
                have xx1 : w3.drew.cell? ⟨w1.heap.size, 1, none⟩ = _ := HQ.out.bX.cell 1 rfl
                refine wpOp_go (E := True) rfl rfl (fun K' hK => ?_)
                go_simp
                refine hK.out _ _ ⟨ρ, (by simp only [put, e0]; rfl), fun _ _ => rfl, hW.pure (by omega)⟩
              · refine wpOp_go (E := True) rfl rfl (fun K' hK => ?_)
                go_simp
                refine hK.out _ _ ⟨ρ, (by simp only [put]; rfl), fun _ _ => rfl, hW.pure (by omega)⟩
              · refine wpOp_go (E := True) rfl rfl (fun K' hK => ?_)
                go_simp
                refine hK.out _ _ ⟨ρ, (by simp only [put]; rfl), fun _ _ => rfl, hW.pure (by omega)⟩
              · have e3 : u 3 = .pointer (some ⟨w1.heap.size, 1, none⟩) := hu 3 (all_of hp (by kernel_rfl))
                have hw := hW.t0 (no_later (i := 10) hc (no_later (i := 9) hc (no_later (i := 8) hc (no_later (i := 7) hc (no_later (i := 6) hc (no_later hc hl (by kernel_rfl)) (by kernel_rfl)) (by kernel_rfl)) (by kernel_rfl)) (by kernel_rfl)) (by kernel_rfl))
                subst hw
                have xx1 : w3.drew.cell? ⟨w1.heap.size, 1, none⟩ = _ := HQ.out.bX.cell 1 rfl
                refine wpOp_go (E := True) rfl rfl (fun K' hK => ?_)
                go_simp
                refine hK.out _ _ ⟨ρ, (by simp only [put, e3]; rfl), fun _ _ => rfl, hW.pure (by omega)⟩
              · refine wpOp_go (E := True) rfl rfl (fun K' hK => ?_)
                go_simp
                refine hK.out _ _ ⟨ρ, (by simp only [put]; rfl), fun _ _ => rfl, hW.pure (by omega)⟩
              · have e4 : u 4 = .slice (some ⟨gp, 0, none⟩) N'.pipes.length d := hu 4 (all_of hp (by kernel_rfl))
                have e5 : u 5 = .int .i64 (m : Int) := hu 5 (all_of hp (by kernel_rfl))
                refine wpOp_go (E := True) rfl rfl (fun K' hK => ?_)
                go_simp
                refine hK.out _ _ ⟨ρ, (by simp only [put, e4, e5]; rfl), fun _ _ => rfl, hW.pure (by omega)⟩
              · have e6 : u 6 = .pointer (some ⟨gp, m * 5, none⟩) := hu 6 (all_of hp (by kernel_rfl))
                refine wpOp_go (E := True) rfl rfl (fun K' hK => ?_)
                go_simp
                refine hK.out _ _ ⟨ρ, (by simp only [put, e6]; rfl), fun _ _ => rfl, hW.pure (by omega)⟩
              · have e7 : u 7 = .pointer (some ⟨gp, m * 5 + 4, none⟩) := hu 7 (all_of hp (by kernel_rfl))
                have hw := hW.t0 (no_later (i := 10) hc (no_later (i := 9) hc (no_later hc hl (by kernel_rfl)) (by kernel_rfl)) (by kernel_rfl))
                subst hw
                have xx1 : w3.drew.cell? ⟨gp, m * 5 + 4, none⟩ = _ := hcl
                refine wpOp_go (E := True) rfl rfl (fun K' hK => ?_)
                go_simp
                refine hK.out _ _ ⟨ρ, (by simp only [put, e7]; rfl), fun _ _ => rfl, hW.pure (by omega)⟩
              · have e8 : u 8 = .int .i64 x.lim := hu 8 (all_of hp (by kernel_rfl))
                refine wpOp_go (E := True) rfl rfl (fun K' hK => ?_)
                go_simp
                refine hK.out _ _ ⟨ρ, (by simp only [put, e8]; rfl), fun _ _ => rfl, hW.pure (by omega)⟩
              · have e9 : u 9 = .int .i64 (IntKind.i64.wrap (x.lim + 30)) := hu 9 (all_of hp (by kernel_rfl))
                refine wpOp_go (E := True) rfl rfl (fun K' hK => ?_)
                go_simp
                refine hK.out _ _ ⟨ρ, (by simp only [put, e9]; rfl), fun _ _ => rfl, hW.pure (by omega)⟩
              · have e1 : u 1 = .slice (some ⟨gp, 0, none⟩) N'.pipes.length d := hu 1 (all_of hp (by kernel_rfl))
                have e2 : u 2 = .int .i64 (m : Int) := hu 2 (all_of hp (by kernel_rfl))
                refine wpOp_go (E := True) rfl rfl (fun K' hK => ?_)
                go_simp
                refine hK.out _ _ ⟨ρ, (by simp only [put, e1, e2]; rfl), fun _ _ => rfl, hW.pure (by omega)⟩
              · have e11 : u 11 = .pointer (some ⟨gp, m * 5, none⟩) := hu 11 (all_of hp (by kernel_rfl))
                refine wpOp_go (E := True) rfl rfl (fun K' hK => ?_)
                go_simp
                refine hK.out _ _ ⟨ρ, (by simp only [put, e11]; rfl), fun _ _ => rfl, hW.pure (by omega)⟩
              · have e12 : u 12 = .pointer (some ⟨gp, m * 5 + 4, none⟩) := hu 12 (all_of hp (by kernel_rfl))
                have e10 : u 10 = .int .i64 (min 30000 (IntKind.i64.wrap (x.lim + 30))) := hu 10 (all_of hp (by kernel_rfl))
                have hw := hW.t0 hl
                subst hw
                have xx1 : w3.drew.cell? ⟨gp, m * 5 + 4, none⟩ = _ := hcl
                have xx2 : w3.drew.frozen? ⟨gp, m * 5 + 4, none⟩ = _ := hfz
                refine wpOp_go (E := True) rfl rfl (fun K' hK => ?_)
                go_simp
                refine hK.out _ _ ⟨ρ, (by simp only [put, e12, e10]; rfl), fun _ _ => rfl, WSt.store rfl⟩
            · intro L ρ u wx hall hu hW
              have hw := hW.t1 (hall 13 (by show 13 < 14; omega))
              have HQ2 := Lib.hid ((HQ.out.below (Below.drew (Below.refl _ _))).setP (k := m) (o := 4) (x := x) (x' := ⟨x.f, x.t, x.k, x.vol, min 30000 (IntKind.i64.wrap (x.lim + 30))⟩) (u := .int .i64 (min 30000 (IntKind.i64.wrap (x.lim + 30)))) hp HX.out (by omega) rfl)
              rw [hw]
              clear hu hall hW hw HQ
              generalize min 30000 (IntKind.i64.wrap (x.lim + 30)) = v9 at *
              go_wp2
              go_roundw
              case rel => exact ⟨m + 1, ⟨N'.nodes, N'.pipes.set m ⟨x.f, x.t, x.k, x.vol, v9⟩⟩, by go_num, by dsimp only; rw [List.length_set]; omega, ⟨HSN.out.n, by dsimp only; rw [List.length_set]; exact HSN.out.m⟩, HQ2.out⟩
              case measure => first | (simp [intOf]; done) | (simp [intOf]; omega)
          · have b0 : decide (0 < z) = false := by simpa using z0
            go_wp2
            go_roundw
            case rel => exact ⟨m + 1, N', by go_num, by omega, HSN.out, HQ.out⟩
            case measure => first | (simp [intOf]; done) | (simp [intOf]; omega)
        · have g2 : ¬ (m : Int) < (N'.pipes.length : Int) := by omega
          have q1 : l1.length ≤ 7 := by have := HLE.out.e1; omega
          have q2 : l2.length ≤ 7 := by have := HLE.out.e2; omega
          have q3 : l3.length ≤ 7 := by have := HLE.out.e3; omega
          have q4 : l4.length ≤ 7 := by have := HLE.out.e4; omega
          by_cases h30 : l3.length = 0
          · have g3 : ¬ (0 : Int) < (l3.length : Int) := by omega
            obtain ⟨a1, m1, rfl, -, -, -⟩ := HI.out.o1.val
            obtain ⟨a2, m2, rfl, -, -, -⟩ := HI.out.o2.val
            obtain ⟨a3, m3, rfl, -, -, -⟩ := HI.out.o3.val
            obtain ⟨a4, m4, rfl, -, -, -⟩ := HI.out.o4.val
            have HZ := Lib.hid (HI.out.dz rfl rfl rfl rfl (by omega) (by omega) (by omega) (by omega))
            clear h30
            go_wp2_with fail
            clear cw7_0 cw7_1 fw7_0 fw7_1 hy7
            have hpw := hp
            have hzb := HZ.out.b2.lt
            have hzs := HZ.out.src.lt
            have hzX := HZ.out.sX
            refine wp_region_tb (R := Zr) [some 133, some 134, some 135, some 136, some 137, some 138, some 139, some 140, some 141, some 142, none, none, none] _ (by intro u; simp only [frs, Act.put, List.setIfInBounds_toArray, List.set_cons_zero, List.set_cons_succ, Nat.reduceAdd]; exact rfl) (fun ρ j => ([.agg #[.slice A N'.nodes.length c, .slice Bq N'.pipes.length d], (.slice a1 l1.length m1), (.slice a2 l2.length m2), (.slice a3 l3.length m3), .agg #[(.slice a1 l1.length m1), (.slice a2 l2.length m2), (.slice a3 l3.length m3)], .pointer (some ⟨p, 0, none⟩), .agg #[.slice A N'.nodes.length c, .slice Bq N'.pipes.length d], ρ.v, (.slice a4 l4.length m4), .agg #[ρ.v, (.slice a4 l4.length m4)], undef, undef, undef] : List Value).getD j undef) (WW3 p w.heap.size 10 11 12 7 [.slice A N'.nodes.length c, .slice Bq N'.pipes.length d] [(.slice a1 l1.length m1), (.slice a2 l2.length m2), (.slice a3 l3.length m3)] (fun v => [v, (.slice a4 l4.length m4)]) (N'.pipes.length + 1) wq) (by kernel_rfl) (by kernel_rfl) Zr.zero (WW3.start (Keep.of_below _ (Below.drew (Below.refl _ _))) (HZ.out.src.below (Below.drew (Below.refl _ _))) (HZ.out.b0.below (Below.drew (Below.refl wq.heap.size _)) HZ.out.b0.lt) (HZ.out.b1.below (Below.drew (Below.refl wq.heap.size _)) HZ.out.b1.lt) (HZ.out.b2.below (Below.drew (Below.refl wq.heap.size _)) HZ.out.b2.lt)) ?_ ?_
            · intro ii hii L ρ u wx hl hp hc hu hn hW
              have hii : ii < 13 := hii
              have HNo := Lib.hid hn
              clear hn
              have hii : ii = 0 ∨ ii = 1 ∨ ii = 2 ∨ ii = 3 ∨ ii = 4 ∨ ii = 5 ∨ ii = 6 ∨ ii = 7 ∨ ii = 8 ∨ ii = 9 ∨ ii = 10 ∨ ii = 11 ∨ ii = 12 := by omega
              rcases hii with rfl | rfl | rfl | rfl | rfl | rfl | rfl | rfl | rfl | rfl | rfl | rfl | rfl
              · have hbX := HZ.out.bX.keep hW.kp (fun q => by omega)
                have xx0 := hbX.cell 0 rfl
                have xx1 := hbX.cell 1 rfl
                clear hbX
                refine wpOp_go (E := True) rfl rfl (fun K' hK => ?_)
                go_simp
                refine hK.out _ _ ⟨ρ, (by simp only [put]; rfl), fun _ _ => rfl, hW.pure (by omega) (by omega) (by omega) (by omega)⟩
              · refine wpOp_go (E := True) rfl rfl (fun K' hK => ?_)
                go_simp
                refine hK.out _ _ ⟨ρ, (by simp only [put]; rfl), fun _ _ => rfl, hW.pure (by omega) (by omega) (by omega) (by omega)⟩
              · refine wpOp_go (E := True) rfl rfl (fun K' hK => ?_)
                go_simp
                refine hK.out _ _ ⟨ρ, (by simp only [put]; rfl), fun _ _ => rfl, hW.pure (by omega) (by omega) (by omega) (by omega)⟩
              · refine wpOp_go (E := True) rfl rfl (fun K' hK => ?_)
                go_simp
                refine hK.out _ _ ⟨ρ, (by simp only [put]; rfl), fun _ _ => rfl, hW.pure (by omega) (by omega) (by omega) (by omega)⟩
              · have e1 : u 1 = (.slice a1 l1.length m1) := hu 1 (all_of hp (by kernel_rfl))
                have e2 : u 2 = (.slice a2 l2.length m2) := hu 2 (all_of hp (by kernel_rfl))
                have e3 : u 3 = (.slice a3 l3.length m3) := hu 3 (all_of hp (by kernel_rfl))
                refine wpOp_go (E := True) rfl rfl (fun K' hK => ?_)
                go_simp
                refine hK.out _ _ ⟨ρ, (by simp only [put, e1, e2, e3]; rfl), fun _ _ => rfl, hW.pure (by omega) (by omega) (by omega) (by omega)⟩
              · refine wpOp_go (E := True) rfl rfl (fun K' hK => ?_)
                go_simp
                refine hK.out _ _ ⟨ρ, (by simp only [put]; rfl), fun _ _ => rfl, hW.pure (by omega) (by omega) (by omega) (by omega)⟩
              · have hbX := HZ.out.bX.keep hW.kp (fun q => by omega)
                have xx0 := hbX.cell 0 rfl
                have xx1 := hbX.cell 1 rfl
                clear hbX
                refine wpOp_go (E := True) rfl rfl (fun K' hK => ?_)
                go_simp
                refine hK.out _ _ ⟨ρ, (by simp only [put]; rfl), fun _ _ => rfl, hW.pure (by omega) (by omega) (by omega) (by omega)⟩
              · have e5 : u 5 = .pointer (some ⟨p, 0, none⟩) := hu 5 (all_of hp (by kernel_rfl))
                have e6 : u 6 = .agg #[.slice A N'.nodes.length c, .slice Bq N'.pipes.length d] := hu 6 (all_of hp (by kernel_rfl))
                refine wpOp_go (E := True) rfl rfl (fun K' hK => ?_)
                go_simp
                go_at_call 50
                have n9 : L 9 = false := no_later hc hl (by kernel_rfl)
                have n12 : L 12 = false := no_later hc n9 (by kernel_rfl)
                refine (spec_l05DrawFlows p A Bq _ c _ d _ hW.sr (by omega)).mono ?_
                rintro e' w5 ⟨Af, cf, fl, rfl, hM, hrf, hs5, hk5, hAf⟩
                refine hK.out _ _ ⟨⟨ρ.b, ρ.r, ρ.c, .slice Af fl.length cf⟩, (by simp only [put, e5, e6]; rfl), fun j hj => by
                    have n9 : L 9 = false := no_later hc hl (by kernel_rfl)
                    have n12 : L 12 = false := no_later hc n9 (by kernel_rfl)
                    match j, hj with
                    | 0, _ => rfl
                    | 1, _ => rfl
                    | 2, _ => rfl
                    | 3, _ => rfl
                    | 4, _ => rfl
                    | 5, _ => rfl
                    | 6, _ => rfl
                    | 7, hj => rw [hl] at hj; cases hj
                    | 8, _ => rfl
                    | 9, hj => rw [n9] at hj; cases hj
                    | 10, _ => rfl
                    | 11, _ => rfl
                    | 12, hj => rw [n12] at hj; cases hj
                    | _ + 13, _ => rfl, hW.call (by omega) (by omega) (by omega) n12 hk5 hs5 hpw hM hrf (fun b off e => (hAf b off e).1)⟩
              · refine wpOp_go (E := True) rfl rfl (fun K' hK => ?_)
                go_simp
                refine hK.out _ _ ⟨ρ, (by simp only [put]; rfl), fun _ _ => rfl, hW.pure (by omega) (by omega) (by omega) (by omega)⟩
              · have e7 : u 7 = ρ.v := hu 7 (all_of hp (by kernel_rfl))
                have e8 : u 8 = (.slice a4 l4.length m4) := hu 8 (all_of hp (by kernel_rfl))
                obtain ⟨Af9, cf9, fl9, hv9, -⟩ := hW.vc (all_of (d := 7) hp (by kernel_rfl))
                rw [hv9] at e7
                refine wpOp_go (E := True) rfl rfl (fun K' hK => ?_)
                go_simp
                refine hK.out _ _ ⟨ρ, (by simp only [put, e7, e8, ← hv9]; rfl), fun _ _ => rfl, hW.pure (by omega) (by omega) (by omega) (by omega)⟩
              · have e0 : u 0 = .agg #[.slice A N'.nodes.length c, .slice Bq N'.pipes.length d] := hu 0 (all_of hp (by kernel_rfl))
                have hb0 := hW.s1 hl
                have hyX := hb0.lt
                have xx0 := hb0.cell 0 rfl
                have xx1 := hb0.cell 1 rfl
                have xf0 := hb0.frozen 0 rfl
                have xf1 := hb0.frozen 1 rfl
                clear hb0
                refine wpOp_go (E := True) rfl rfl (fun K' hK => ?_)
                go_simp
                refine hK.out _ _ ⟨ρ, (by simp only [put, e0]; rfl), fun _ _ => rfl, hW.put1 (by omega) (by omega) (by omega) hpw (by omega) (((Keep.refl (· = w.heap.size) _).one _).one _) (bx2 (by simp; omega) (by simp [go_sem, xx0, xx1]) (by simp [go_sem, xf0]) (by simp [go_sem, xx0, xx1]) (by simp [go_sem, xf1]))⟩
              · have e4 : u 4 = .agg #[(.slice a1 l1.length m1), (.slice a2 l2.length m2), (.slice a3 l3.length m3)] := hu 4 (all_of hp (by kernel_rfl))
                have hb0 := hW.s2 hl
                have hyX := hb0.lt
                have xx0 := hb0.cell 0 rfl
                have xx1 := hb0.cell 1 rfl
                have xx2 := hb0.cell 2 rfl
                have xf0 := hb0.frozen 0 rfl
                have xf1 := hb0.frozen 1 rfl
                have xf2 := hb0.frozen 2 rfl
                clear hb0
                refine wpOp_go (E := True) rfl rfl (fun K' hK => ?_)
                go_simp
                refine hK.out _ _ ⟨ρ, (by simp only [put, e4]; rfl), fun _ _ => rfl, hW.put2 (by omega) (by omega) (by omega) hpw (by omega) ((((Keep.refl (· = (w.heap.size + 1)) _).one _).one _).one _) (bx3 (by simp; omega) (by simp [go_sem, xx0, xx1, xx2]) (by simp [go_sem, xf0]) (by simp [go_sem, xx0, xx1, xx2]) (by simp [go_sem, xf1]) (by simp [go_sem, xx0, xx1, xx2]) (by simp [go_sem, xf2]))⟩
              · have e9 : u 9 = .agg #[ρ.v, (.slice a4 l4.length m4)] := hu 9 (all_of hp (by kernel_rfl))
                obtain ⟨Af9, cf9, fl9, hv9, -⟩ := hW.vc (all_of (d := 7) (hc 9 (all_of (d := 9) hp (by kernel_rfl))) (by kernel_rfl))
                rw [hv9] at e9
                have hb0 := hW.s3 hl
                have hyX := hb0.lt
                have xx0 := hb0.cell 0 rfl
                have xx1 := hb0.cell 1 rfl
                have xf0 := hb0.frozen 0 rfl
                have xf1 := hb0.frozen 1 rfl
                clear hb0
                refine wpOp_go (E := True) rfl rfl (fun K' hK => ?_)
                go_simp
                refine hK.out _ _ ⟨ρ, (by simp only [put, e9]; rfl), fun _ _ => rfl, hW.put3 (by omega) (by omega) (by omega) hpw (by omega) (((Keep.refl (· = (w.heap.size + 2)) _).one _).one _) (by show Bx _ _ [ρ.v, _]; rw [hv9]; exact bx2 (by simp; omega) (by simp [go_sem, xx0, xx1]) (by simp [go_sem, xf0]) (by simp [go_sem, xx0, xx1]) (by simp [go_sem, xf1]))⟩
            · intro L ρ u wx hall hu hW
              have hb0 := hW.t1 (hall 10 (by show 10 < 13; omega))
              have hb1 := hW.t2 (hall 11 (by show 11 < 13; omega))
              have hb2 := hW.t3 (hall 12 (by show 12 < 13; omega))
              obtain ⟨Af, cf, fl, hv, hM, hrf, hAf⟩ := hW.vc (hall 7 (by show 7 < 13; omega))
              rw [hv] at hb2
              have cw0_0 := hb0.cell 0 rfl
              have cw0_1 := hb0.cell 1 rfl
              have cw1_0 := hb1.cell 0 rfl
              have cw1_1 := hb1.cell 1 rfl
              have cw1_2 := hb1.cell 2 rfl
              have cw2_0 := hb2.cell 0 rfl
              have cw2_1 := hb2.cell 1 rfl
              have hkp := hW.kp
              have hsr := hW.sr
              have hkz := hkp.size
              clear hu hall hW hb0 hb1 hb2 hv
              go_wp2
              refine bodyPost_ret (by simp [results, Try.results25, go_sem, cw0_0, cw0_1, cw1_0, cw1_1, cw1_2, cw2_0, cw2_1]; try rfl) rfl ?_
              have := dz_post (n1 := l1.length) (n2 := l2.length) (n3 := l3.length) (n4 := l4.length) (m1 := m1) (m2 := m2) (m3 := m3) (m4 := m4) (cf := cf) HZ.out rfl rfl rfl rfl hp hkp hsr hrf (by omega) (fun b off e => by have := hAf b off e; omega) (by have := HSN.out.n; omega)
              simpa [netV] using this
          · have g3 : (0 : Int) < (l3.length : Int) := by omega
            have hk0 : 0 < l3.length := by omega
            have hn1 : 0 < l1.length := by have := HLE.out.e1; have := HLE.out.e3; omega
            have hn2 : 0 < l2.length := by have := HLE.out.e2; have := HLE.out.e3; omega
            have gl1 : (0 : Int) < (l1.length : Int) := by omega
            have gl2 : (0 : Int) < (l2.length : Int) := by omega
            obtain ⟨x1, hx1⟩ := get_some hn1
            obtain ⟨x2, hx2⟩ := get_some hn2
            have hb1 := HLE.out.b1 x1 (List.mem_of_getElem? hx1)
            have hb2 := HLE.out.b2 x2 (List.mem_of_getElem? hx2)
            have HX1 := Lib.hid hx1
            have HX2 := Lib.hid hx2
            obtain ⟨ga, m1, rfl, hg1, -, -⟩ := HI.out.cell1 hx1
            obtain ⟨gb, m2, rfl, hg2, -, -⟩ := HI.out.cell2 hx2
            obtain ⟨gc, m3, rfl, hg3, -, -⟩ := HI.out.o3.arr hk0
            obtain ⟨a4, m4, rfl, -, -, -⟩ := HI.out.o4.val
            clear hx1 hx2 h30
            go_wp2_with fail
            refine (spec_l01Next p _ _ HI.out.src (by omega)).mono ?_
            rintro e w20 ⟨z, rfl, za, _, zb, hs3, hk3⟩
            have HQ := Lib.hid (HI.out.keep hp hk3 hs3)
            clear hs3 hk3 zb HI cw7_0 cw7_1 fw7_0 fw7_1 hy7
            obtain ⟨hl1, T1⟩ := HQ.out.at1 HX1.out
            obtain ⟨hl2, T2⟩ := HQ.out.at2 HX2.out
            have hne13 : ga ≠ gc := fun e => HQ.out.a13 ga rfl (by rw [e]; rfl)
            have hne23 : gb ≠ gc := fun e => HQ.out.a23 gb rfl (by rw [e]; rfl)
            obtain ⟨y3, hc3, hf3, hl3⟩ : ∃ y, w20.cell? ⟨gc, 0, none⟩ = some y ∧ w20.frozen? ⟨gc, 0, none⟩ = false ∧ gc < w20.heap.size := by
              obtain ⟨gz, c', he, _, _, ha⟩ := HQ.out.o3.arr hk0
              injection he with he
              injection he with he
              injection he with he
              subst he
              obtain ⟨y, hy⟩ := ha.some_ (j := 0) (by omega)
              exact ⟨y, hy, ha.free (by omega), ha.lt⟩
            have hsz20 := HQ.out.sz
            by_cases e0 : z = 0
            · subst e0
              go_wp2_with fail
              refine wp_region_tb (R := Zr) [some 100, some 101, some 102, some 103, some 104, some 105, some 106, some 107, some 108, some 109, some 110, some 111, some 112, some 113, some 114, none] _ (by intro u; simp only [frs, Act.put, List.setIfInBounds_toArray, List.set_cons_zero, List.set_cons_succ, Nat.reduceAdd]; exact rfl) (fun ρ j => ([.slice (some ⟨gc, 0, none⟩) l3.length m3, .slice (some ⟨ga, 0, none⟩) l1.length m1, .pointer (some ⟨ga, 0, none⟩), .int .i64 x1, .int .i64 (x1 - 1), .slice (some ⟨gb, 0, none⟩) l2.length m2, .pointer (some ⟨gb, 0, none⟩), .int .i64 x2, .int .i64 (x2 + 1), .slice (some ⟨ρ.b 9, 0, none⟩) 2 2, .pointer (some ⟨p, 0, none⟩), .int .i64 (ρ.r 11), .pointer (some ⟨ρ.b 9, (ρ.r 11).toNat, none⟩), .int .i64 ((ρ.c 9).getD (ρ.r 11).toNat 0), .pointer (some ⟨gc, 0, none⟩), undef] : List Value).getD j undef) (WZ p (fun k => k = gc) [(11, 2)] [(9, 2, -10, 400)] 15 (fun wt => Keep (· = p) w20 wt) (fun _ wt => ∃ (v : Int) (wb : World), Keep (· = p) w20 wb ∧ Src wb p ∧ Below (wb.setCell ⟨gc, 0, none⟩ (iV v)).heap.size (wb.setCell ⟨gc, 0, none⟩ (iV v)) wt) w20) (by kernel_rfl) (by kernel_rfl) Zr.zero (WZ.start (Keep.of_below _ (Below.drew (Below.refl _ _))) (HQ.out.src.below (Below.drew (Below.refl _ _))) (Keep.of_below _ (Below.drew (Below.refl _ _)))) ?_ ?_
              · intro ii hii L ρ u wx hl hp hc hu hn hW
                have hii : ii < 16 := hii
                have HNo := Lib.hid hn
                clear hn
                have hii : ii = 0 ∨ ii = 1 ∨ ii = 2 ∨ ii = 3 ∨ ii = 4 ∨ ii = 5 ∨ ii = 6 ∨ ii = 7 ∨ ii = 8 ∨ ii = 9 ∨ ii = 10 ∨ ii = 11 ∨ ii = 12 ∨ ii = 13 ∨ ii = 14 ∨ ii = 15 := by omega
                rcases hii with rfl | rfl | rfl | rfl | rfl | rfl | rfl | rfl | rfl | rfl | rfl | rfl | rfl | rfl | rfl | rfl
                · refine wpOp_go (E := True) rfl rfl (fun K' hK => ?_)
                  go_simp
                  refine hK.out _ _ ⟨ρ, (by simp only [put]; rfl), fun _ _ => rfl, hW.pure rfl rfl (by omega)⟩
                · refine wpOp_go (E := True) rfl rfl (fun K' hK => ?_)
                  go_simp
                  refine hK.out _ _ ⟨ρ, (by simp only [put]; rfl), fun _ _ => rfl, hW.pure rfl rfl (by omega)⟩
                · have e1 : u 1 = .slice (some ⟨ga, 0, none⟩) l1.length m1 := hu 1 (all_of hp (by kernel_rfl))
                  refine wpOp_go (E := True) rfl rfl (fun K' hK => ?_)
                  go_simp
                  refine hK.out _ _ ⟨ρ, (by simp only [put, e1]; rfl), fun _ _ => rfl, hW.pure rfl rfl (by omega)⟩
                · have e2 : u 2 = .pointer (some ⟨ga, 0, none⟩) := hu 2 (all_of hp (by kernel_rfl))
                  have y0 := (hW.kp.cell ga 0 hl1 (fun q => q.elim (fun q => by omega) hne13)).trans T1
                  refine wpOp_go (E := True) rfl rfl (fun K' hK => ?_)
                  go_simp
                  refine hK.out _ _ ⟨ρ, (by simp only [put, e2]; rfl), fun _ _ => rfl, hW.pure rfl rfl (by omega)⟩
                · have e3 : u 3 = .int .i64 x1 := hu 3 (all_of hp (by kernel_rfl))
                  have hwr4 := IntWalk.i64_in (x1 - 1) ⟨by omega, by omega⟩
                  refine wpOp_go (E := True) rfl rfl (fun K' hK => ?_)
                  go_simp
                  refine hK.out _ _ ⟨ρ, (by simp only [put, e3, hwr4]; rfl), fun _ _ => rfl, hW.pure rfl rfl (by omega)⟩
                · refine wpOp_go (E := True) rfl rfl (fun K' hK => ?_)
                  go_simp
                  refine hK.out _ _ ⟨ρ, (by simp only [put]; rfl), fun _ _ => rfl, hW.pure rfl rfl (by omega)⟩
                · have e5 : u 5 = .slice (some ⟨gb, 0, none⟩) l2.length m2 := hu 5 (all_of hp (by kernel_rfl))
                  refine wpOp_go (E := True) rfl rfl (fun K' hK => ?_)
                  go_simp
                  refine hK.out _ _ ⟨ρ, (by simp only [put, e5]; rfl), fun _ _ => rfl, hW.pure rfl rfl (by omega)⟩
                · have e6 : u 6 = .pointer (some ⟨gb, 0, none⟩) := hu 6 (all_of hp (by kernel_rfl))
                  have y0 := (hW.kp.cell gb 0 hl2 (fun q => q.elim (fun q => by omega) hne23)).trans T2
                  refine wpOp_go (E := True) rfl rfl (fun K' hK => ?_)
                  go_simp
                  refine hK.out _ _ ⟨ρ, (by simp only [put, e6]; rfl), fun _ _ => rfl, hW.pure rfl rfl (by omega)⟩
                · have e7 : u 7 = .int .i64 x2 := hu 7 (all_of hp (by kernel_rfl))
                  have hwr8 := IntWalk.i64_in (x2 + 1) ⟨by omega, by omega⟩
                  refine wpOp_go (E := True) rfl rfl (fun K' hK => ?_)
                  go_simp
                  refine hK.out _ _ ⟨ρ, (by simp only [put, e7, hwr8]; rfl), fun _ _ => rfl, hW.pure rfl rfl (by omega)⟩
                · have e4 : u 4 = .int .i64 (x1 - 1) := hu 4 (all_of hp (by kernel_rfl))
                  have e8 : u 8 = .int .i64 (x2 + 1) := hu 8 (all_of hp (by kernel_rfl))
                  refine wpOp_go (E := True) rfl rfl (fun K' hK => ?_)
                  go_simp
                  generalize hW5 : World.alloc wx _ = w5
                  have hb5 : Below wx.heap.size wx w5 := by rw [← hW5]; (repeat' (first | (with_reducible exact Below.refl _ _) | (with_reducible assumption) | (with_reducible refine Below.alloc ?_ ?_ _) | (with_reducible refine Below.drew ?_) | (with_reducible refine Below.drewN' ?_ _) | (with_reducible refine Below.setCell ?_ ?_ _) | (refine Below.via ?_ (by with_reducible assumption) ?_) | (with_reducible refine Below.via ?_ (Wd.h _) ?_) | go_size))
                  have hx5 : Bx w5 wx.heap.size (([x1 - 1, x2 + 1] : List Int).map iV) := by rw [← hW5]; exact bx2 (by simp) (by simp) (by simp) (by simp) (by simp)
                  clear hW5
                  refine hK.out _ _ ⟨ρ.made 9 wx.heap.size [x1 - 1, x2 + 1], (by simp only [put, e4, e8]; rfl), fun j hj => by
                      have n12 : L 12 = false := no_later hc hl (by kernel_rfl)
                      have n13 : L 13 = false := no_later hc n12 (by kernel_rfl)
                      have n15 : L 15 = false := no_later hc n13 (by kernel_rfl)
                      match j, hj with
                      | 0, _ => rfl
                      | 1, _ => rfl
                      | 2, _ => rfl
                      | 3, _ => rfl
                      | 4, _ => rfl
                      | 5, _ => rfl
                      | 6, _ => rfl
                      | 7, _ => rfl
                      | 8, _ => rfl
                      | 9, hj => rw [hl] at hj; cases hj
                      | 10, _ => rfl
                      | 11, _ => rfl
                      | 12, hj => rw [n12] at hj; cases hj
                      | 13, hj => rw [n13] at hj; cases hj
                      | 14, _ => rfl
                      | 15, hj => rw [n15] at hj; cases hj
                      | _ + 16, _ => rfl, hW.made rfl (by omega) hb5 (fun h1 => h1.trans (Keep.of_below _ hb5)) (fun ⟨v, wb, h1, h2, h3⟩ => ⟨v, wb, h1, h2, h3.trans (hb5.mono h3.size)⟩) hx5 (by intro k lo hi hm; simp at hm; obtain ⟨rfl, rfl, rfl⟩ := hm; refine ⟨rfl, fun x hx => ?_⟩; simp at hx; omega)⟩
                · refine wpOp_go (E := True) rfl rfl (fun K' hK => ?_)
                  go_simp
                  refine hK.out _ _ ⟨ρ, (by simp only [put]; rfl), fun _ _ => rfl, hW.pure rfl rfl (by omega)⟩
                · have e10 : u 10 = .pointer (some ⟨p, 0, none⟩) := hu 10 (all_of hp (by kernel_rfl))
                  have nks : L 15 = false := no_later hc hl (by kernel_rfl)
                  refine wpOp_go (E := True) rfl rfl (fun K' hK => ?_)
                  go_simp
                  go_at_call 26
                  refine (spec_l01Next _ _ _ (hW.sr nks) (by omega)).mono ?_
                  rintro e' w5 ⟨r, rfl, ra, _, rb, hs5, hk5⟩
                  have rc := rb (by omega)
                  refine hK.out _ _ ⟨ρ.drawn 11 r, (by simp only [put, e10]; rfl), fun j hj => by
                      have n12 : L 12 = false := no_later hc hl (by kernel_rfl)
                      have n13 : L 13 = false := no_later hc n12 (by kernel_rfl)
                      have n15 : L 15 = false := no_later hc n13 (by kernel_rfl)
                      match j, hj with
                      | 0, _ => rfl
                      | 1, _ => rfl
                      | 2, _ => rfl
                      | 3, _ => rfl
                      | 4, _ => rfl
                      | 5, _ => rfl
                      | 6, _ => rfl
                      | 7, _ => rfl
                      | 8, _ => rfl
                      | 9, _ => rfl
                      | 10, _ => rfl
                      | 11, hj => rw [hl] at hj; cases hj
                      | 12, hj => rw [n12] at hj; cases hj
                      | 13, hj => rw [n13] at hj; cases hj
                      | 14, _ => rfl
                      | 15, hj => rw [n15] at hj; cases hj
                      | _ + 16, _ => rfl, hW.call rfl (by omega) nks (by omega) hk5 hs5 (fun h1 => h1.trans hk5) (by intro n hn; simp at hn; omega)⟩
                · have e9 : u 9 = .slice (some ⟨ρ.b 9, 0, none⟩) 2 2 := hu 9 (all_of hp (by kernel_rfl))
                  have e11 : u 11 = .int .i64 (ρ.r 11) := hu 11 (all_of hp (by kernel_rfl))
                  obtain ⟨ra11, rb11⟩ := hW.dr 11 (2) (by simp) (all_of hp (by kernel_rfl))
                  obtain ⟨pk1, -, -, -, -⟩ := hW.pick (i := 9) (j := 11) (k := 2) (lo := -10) (hi := 400) (n := 2) (by simp) (by simp) (by omega) (all_of hp (by kernel_rfl)) (all_of hp (by kernel_rfl))
                  refine wpOp_go (E := True) rfl rfl (fun K' hK => ?_)
                  go_simp
                  refine hK.out _ _ ⟨ρ, (by simp only [put, e9, e11]; rfl), fun _ _ => rfl, hW.pure rfl rfl (by omega)⟩
                · have e12 : u 12 = .pointer (some ⟨ρ.b 9, (ρ.r 11).toNat, none⟩) := hu 12 (all_of hp (by kernel_rfl))
                  obtain ⟨ra11, rb11⟩ := hW.dr 11 (2) (by simp) (all_of (hc 12 (all_of hp (by kernel_rfl))) (by kernel_rfl))
                  obtain ⟨pk1, -, pk3, -, -⟩ := hW.pick (i := 9) (j := 11) (k := 2) (lo := -10) (hi := 400) (n := 2) (by simp) (by simp) (by omega) (all_of (hc 12 (all_of hp (by kernel_rfl))) (by kernel_rfl)) (all_of (hc 12 (all_of hp (by kernel_rfl))) (by kernel_rfl))
                  have pk4 := (hW.md 9 2 (-10) (400) (by simp) (all_of (hc 12 (all_of hp (by kernel_rfl))) (by kernel_rfl))).2.cell (ρ.r 11).toNat (by rw [List.getElem?_map, pk3]; rfl)
                  clear pk3
                  refine wpOp_go (E := True) rfl rfl (fun K' hK => ?_)
                  go_simp
                  refine hK.out _ _ ⟨ρ, (by simp only [put, e12]; rfl), fun _ _ => rfl, hW.pure rfl rfl (by omega)⟩
                · have e0 : u 0 = .slice (some ⟨gc, 0, none⟩) l3.length m3 := hu 0 (all_of hp (by kernel_rfl))
                  refine wpOp_go (E := True) rfl rfl (fun K' hK => ?_)
                  go_simp
                  refine hK.out _ _ ⟨ρ, (by simp only [put, e0]; rfl), fun _ _ => rfl, hW.pure rfl rfl (by omega)⟩
                · have e14 : u 14 = .pointer (some ⟨gc, 0, none⟩) := hu 14 (all_of hp (by kernel_rfl))
                  have e13 : u 13 = .int .i64 ((ρ.c 9).getD (ρ.r 11).toNat 0) := hu 13 (all_of hp (by kernel_rfl))
                  obtain ⟨ra11, rb11⟩ := hW.dr 11 (2) (by simp) (all_of (hc 12 (all_of (hc 13 (all_of hp (by kernel_rfl))) (by kernel_rfl))) (by kernel_rfl))
                  have y0 := ((hW.t0 hl).cell gc 0 hl3 (by omega)).trans hc3
                  have y1 := ((hW.t0 hl).frozen gc 0 hl3 (by omega)).trans hf3
                  refine wpOp_go (E := True) rfl rfl (fun K' hK => ?_)
                  go_simp
                  refine hK.out _ _ ⟨ρ, (by simp only [put, e14, e13]; rfl), fun _ _ => rfl, hW.store rfl rfl (by intro k q; omega) ((((Keep.refl (· = gc) _).one _)).wide fun k q => Or.inr q) ⟨(ρ.c 9).getD (ρ.r 11).toNat 0, wx, hW.t0 hl, hW.sr hl, Below.refl _ _⟩⟩
              · intro L ρ u wx hall hu hW
                rename World => w21
                obtain ⟨v, wb, hkb, hsb, hbb⟩ := hW.t1 (hall 15 (by show 15 < 16; omega))
                obtain ⟨L3, hQ3, hL3⟩ : ∃ L3 : List Int, Q4 w p w1.heap.size (w1.heap.size + 1) A Bq c d N' (.slice (some ⟨ga, 0, none⟩) l1.length m1) (.slice (some ⟨gb, 0, none⟩) l2.length m2) (.slice (some ⟨gc, 0, none⟩) l3.length m3) (.slice a4 l4.length m4) l1 l2 L3 l4 w21 ∧ l3.length = L3.length := ⟨l3.set 0 v, ((HQ.out.keep hp hkb hsb).set3 hp rfl 0 hk0 v).below hbb, by simp⟩
                have HZ := Lib.hid (hQ3.dz rfl rfl hL3 rfl (by omega) (by omega) (by omega) (by omega))
                have HL3 := Lib.hid hL3
                clear hL3
                clear hu hall hW hkb hsb hbb hQ3 HQ T1 T2 hc3 hf3
                go_wp2_with fail
                have hpw := hp
                have hzb := HZ.out.b2.lt
                have hzs := HZ.out.src.lt
                have hzX := HZ.out.sX
                refine wp_region_tb (R := Zr) [some 133, some 134, some 135, some 136, some 137, some 138, some 139, some 140, some 141, some 142, none, none, none] _ (by intro u; simp only [frs, Act.put, List.setIfInBounds_toArray, List.set_cons_zero, List.set_cons_succ, Nat.reduceAdd]; exact rfl) (fun ρ j => ([.agg #[.slice A N'.nodes.length c, .slice Bq N'.pipes.length d], (.slice (some ⟨ga, 0, none⟩) l1.length m1), (.slice (some ⟨gb, 0, none⟩) l2.length m2), (.slice (some ⟨gc, 0, none⟩) l3.length m3), .agg #[(.slice (some ⟨ga, 0, none⟩) l1.length m1), (.slice (some ⟨gb, 0, none⟩) l2.length m2), (.slice (some ⟨gc, 0, none⟩) l3.length m3)], .pointer (some ⟨p, 0, none⟩), .agg #[.slice A N'.nodes.length c, .slice Bq N'.pipes.length d], ρ.v, (.slice a4 l4.length m4), .agg #[ρ.v, (.slice a4 l4.length m4)], undef, undef, undef] : List Value).getD j undef) (WW3 p w.heap.size 10 11 12 7 [.slice A N'.nodes.length c, .slice Bq N'.pipes.length d] [(.slice (some ⟨ga, 0, none⟩) l1.length m1), (.slice (some ⟨gb, 0, none⟩) l2.length m2), (.slice (some ⟨gc, 0, none⟩) l3.length m3)] (fun v => [v, (.slice a4 l4.length m4)]) (N'.pipes.length + 1) w21) (by kernel_rfl) (by kernel_rfl) Zr.zero (WW3.start (Keep.of_below _ (Below.drew (Below.refl _ _))) (HZ.out.src.below (Below.drew (Below.refl _ _))) (HZ.out.b0.below (Below.drew (Below.refl w21.heap.size _)) HZ.out.b0.lt) (HZ.out.b1.below (Below.drew (Below.refl w21.heap.size _)) HZ.out.b1.lt) (HZ.out.b2.below (Below.drew (Below.refl w21.heap.size _)) HZ.out.b2.lt)) ?_ ?_
                · intro ii hii L ρ u wx hl hp hc hu hn hW
                  have hii : ii < 13 := hii
                  have HNo := Lib.hid hn
                  clear hn
                  have hii : ii = 0 ∨ ii = 1 ∨ ii = 2 ∨ ii = 3 ∨ ii = 4 ∨ ii = 5 ∨ ii = 6 ∨ ii = 7 ∨ ii = 8 ∨ ii = 9 ∨ ii = 10 ∨ ii = 11 ∨ ii = 12 := by omega
                  rcases hii with rfl | rfl | rfl | rfl | rfl | rfl | rfl | rfl | rfl | rfl | rfl | rfl | rfl
                  · have hbX := HZ.out.bX.keep hW.kp (fun q => by omega)
                    have xx0 := hbX.cell 0 rfl
                    have xx1 := hbX.cell 1 rfl
                    clear hbX
                    refine wpOp_go (E := True) rfl rfl (fun K' hK => ?_)
                    go_simp
                    refine hK.out _ _ ⟨ρ, (by simp only [put]; rfl), fun _ _ => rfl, hW.pure (by omega) (by omega) (by omega) (by omega)⟩
                  · refine wpOp_go (E := True) rfl rfl (fun K' hK => ?_)
                    go_simp
                    refine hK.out _ _ ⟨ρ, (by simp only [put]; rfl), fun _ _ => rfl, hW.pure (by omega) (by omega) (by omega) (by omega)⟩
                  · refine wpOp_go (E := True) rfl rfl (fun K' hK => ?_)
                    go_simp
                    refine hK.out _ _ ⟨ρ, (by simp only [put]; rfl), fun _ _ => rfl, hW.pure (by omega) (by omega) (by omega) (by omega)⟩
                  · refine wpOp_go (E := True) rfl rfl (fun K' hK => ?_)
                    go_simp
                    refine hK.out _ _ ⟨ρ, (by simp only [put]; rfl), fun _ _ => rfl, hW.pure (by omega) (by omega) (by omega) (by omega)⟩
                  · have e1 : u 1 = (.slice (some ⟨ga, 0, none⟩) l1.length m1) := hu 1 (all_of hp (by kernel_rfl))
                    have e2 : u 2 = (.slice (some ⟨gb, 0, none⟩) l2.length m2) := hu 2 (all_of hp (by kernel_rfl))
                    have e3 : u 3 = (.slice (some ⟨gc, 0, none⟩) l3.length m3) := hu 3 (all_of hp (by kernel_rfl))
                    refine wpOp_go (E := True) rfl rfl (fun K' hK => ?_)
                    go_simp
                    refine hK.out _ _ ⟨ρ, (by simp only [put, e1, e2, e3]; rfl), fun _ _ => rfl, hW.pure (by omega) (by omega) (by omega) (by omega)⟩
                  · refine wpOp_go (E := True) rfl rfl (fun K' hK => ?_)
                    go_simp
                    refine hK.out _ _ ⟨ρ, (by simp only [put]; rfl), fun _ _ => rfl, hW.pure (by omega) (by omega) (by omega) (by omega)⟩
                  · have hbX := HZ.out.bX.keep hW.kp (fun q => by omega)
                    have xx0 := hbX.cell 0 rfl
                    have xx1 := hbX.cell 1 rfl
                    clear hbX
                    refine wpOp_go (E := True) rfl rfl (fun K' hK => ?_)
                    go_simp
                    refine hK.out _ _ ⟨ρ, (by simp only [put]; rfl), fun _ _ => rfl, hW.pure (by omega) (by omega) (by omega) (by omega)⟩
                  · have e5 : u 5 = .pointer (some ⟨p, 0, none⟩) := hu 5 (all_of hp (by kernel_rfl))
                    have e6 : u 6 = .agg #[.slice A N'.nodes.length c, .slice Bq N'.pipes.length d] := hu 6 (all_of hp (by kernel_rfl))
                    refine wpOp_go (E := True) rfl rfl (fun K' hK => ?_)
                    go_simp
                    go_at_call 50
                    have n9 : L 9 = false := no_later hc hl (by kernel_rfl)
                    have n12 : L 12 = false := no_later hc n9 (by kernel_rfl)
                    refine (spec_l05DrawFlows p A Bq _ c _ d _ hW.sr (by omega)).mono ?_
                    rintro e' w5 ⟨Af, cf, fl, rfl, hM, hrf, hs5, hk5, hAf⟩
                    refine hK.out _ _ ⟨⟨ρ.b, ρ.r, ρ.c, .slice Af fl.length cf⟩, (by simp only [put, e5, e6]; rfl), fun j hj => by
                        have n9 : L 9 = false := no_later hc hl (by kernel_rfl)
                        have n12 : L 12 = false := no_later hc n9 (by kernel_rfl)
                        match j, hj with
                        | 0, _ => rfl
                        | 1, _ => rfl
                        | 2, _ => rfl
                        | 3, _ => rfl
                        | 4, _ => rfl
                        | 5, _ => rfl
                        | 6, _ => rfl
                        | 7, hj => rw [hl] at hj; cases hj
                        | 8, _ => rfl
                        | 9, hj => rw [n9] at hj; cases hj
                        | 10, _ => rfl
                        | 11, _ => rfl
                        | 12, hj => rw [n12] at hj; cases hj
                        | _ + 13, _ => rfl, hW.call (by omega) (by omega) (by omega) n12 hk5 hs5 hpw hM hrf (fun b off e => (hAf b off e).1)⟩
                  · refine wpOp_go (E := True) rfl rfl (fun K' hK => ?_)
                    go_simp
                    refine hK.out _ _ ⟨ρ, (by simp only [put]; rfl), fun _ _ => rfl, hW.pure (by omega) (by omega) (by omega) (by omega)⟩
                  · have e7 : u 7 = ρ.v := hu 7 (all_of hp (by kernel_rfl))
                    have e8 : u 8 = (.slice a4 l4.length m4) := hu 8 (all_of hp (by kernel_rfl))
                    obtain ⟨Af9, cf9, fl9, hv9, -⟩ := hW.vc (all_of (d := 7) hp (by kernel_rfl))
                    rw [hv9] at e7
                    refine wpOp_go (E := True) rfl rfl (fun K' hK => ?_)
                    go_simp
                    refine hK.out _ _ ⟨ρ, (by simp only [put, e7, e8, ← hv9]; rfl), fun _ _ => rfl, hW.pure (by omega) (by omega) (by omega) (by omega)⟩
                  · have e0 : u 0 = .agg #[.slice A N'.nodes.length c, .slice Bq N'.pipes.length d] := hu 0 (all_of hp (by kernel_rfl))
                    have hb0 := hW.s1 hl
                    have hyX := hb0.lt
                    have xx0 := hb0.cell 0 rfl
                    have xx1 := hb0.cell 1 rfl
                    have xf0 := hb0.frozen 0 rfl
                    have xf1 := hb0.frozen 1 rfl
                    clear hb0
                    refine wpOp_go (E := True) rfl rfl (fun K' hK => ?_)
                    go_simp
                    refine hK.out _ _ ⟨ρ, (by simp only [put, e0]; rfl), fun _ _ => rfl, hW.put1 (by omega) (by omega) (by omega) hpw (by omega) (((Keep.refl (· = w.heap.size) _).one _).one _) (bx2 (by simp; omega) (by simp [go_sem, xx0, xx1]) (by simp [go_sem, xf0]) (by simp [go_sem, xx0, xx1]) (by simp [go_sem, xf1]))⟩
                  · have e4 : u 4 = .agg #[(.slice (some ⟨ga, 0, none⟩) l1.length m1), (.slice (some ⟨gb, 0, none⟩) l2.length m2), (.slice (some ⟨gc, 0, none⟩) l3.length m3)] := hu 4 (all_of hp (by kernel_rfl))
                    have hb0 := hW.s2 hl
                    have hyX := hb0.lt
                    have xx0 := hb0.cell 0 rfl
                    have xx1 := hb0.cell 1 rfl
                    have xx2 := hb0.cell 2 rfl
                    have xf0 := hb0.frozen 0 rfl
                    have xf1 := hb0.frozen 1 rfl
                    have xf2 := hb0.frozen 2 rfl
                    clear hb0
                    refine wpOp_go (E := True) rfl rfl (fun K' hK => ?_)
                    go_simp
                    refine hK.out _ _ ⟨ρ, (by simp only [put, e4]; rfl), fun _ _ => rfl, hW.put2 (by omega) (by omega) (by omega) hpw (by omega) ((((Keep.refl (· = (w.heap.size + 1)) _).one _).one _).one _) (bx3 (by simp; omega) (by simp [go_sem, xx0, xx1, xx2]) (by simp [go_sem, xf0]) (by simp [go_sem, xx0, xx1, xx2]) (by simp [go_sem, xf1]) (by simp [go_sem, xx0, xx1, xx2]) (by simp [go_sem, xf2]))⟩
                  · have e9 : u 9 = .agg #[ρ.v, (.slice a4 l4.length m4)] := hu 9 (all_of hp (by kernel_rfl))
                    obtain ⟨Af9, cf9, fl9, hv9, -⟩ := hW.vc (all_of (d := 7) (hc 9 (all_of (d := 9) hp (by kernel_rfl))) (by kernel_rfl))
                    rw [hv9] at e9
                    have hb0 := hW.s3 hl
                    have hyX := hb0.lt
                    have xx0 := hb0.cell 0 rfl
                    have xx1 := hb0.cell 1 rfl
                    have xf0 := hb0.frozen 0 rfl
                    have xf1 := hb0.frozen 1 rfl
                    clear hb0
                    refine wpOp_go (E := True) rfl rfl (fun K' hK => ?_)
                    go_simp
                    refine hK.out _ _ ⟨ρ, (by simp only [put, e9]; rfl), fun _ _ => rfl, hW.put3 (by omega) (by omega) (by omega) hpw (by omega) (((Keep.refl (· = (w.heap.size + 2)) _).one _).one _) (by show Bx _ _ [ρ.v, _]; rw [hv9]; exact bx2 (by simp; omega) (by simp [go_sem, xx0, xx1]) (by simp [go_sem, xf0]) (by simp [go_sem, xx0, xx1]) (by simp [go_sem, xf1]))⟩
                · intro L ρ u wx hall hu hW
                  have hb0 := hW.t1 (hall 10 (by show 10 < 13; omega))
                  have hb1 := hW.t2 (hall 11 (by show 11 < 13; omega))
                  have hb2 := hW.t3 (hall 12 (by show 12 < 13; omega))
                  obtain ⟨Af, cf, fl, hv, hM, hrf, hAf⟩ := hW.vc (hall 7 (by show 7 < 13; omega))
                  rw [hv] at hb2
                  have cw0_0 := hb0.cell 0 rfl
                  have cw0_1 := hb0.cell 1 rfl
                  have cw1_0 := hb1.cell 0 rfl
                  have cw1_1 := hb1.cell 1 rfl
                  have cw1_2 := hb1.cell 2 rfl
                  have cw2_0 := hb2.cell 0 rfl
                  have cw2_1 := hb2.cell 1 rfl
                  have hkp := hW.kp
                  have hsr := hW.sr
                  have hkz := hkp.size
                  clear hu hall hW hb0 hb1 hb2 hv
                  go_wp2
                  refine bodyPost_ret (by simp [results, Try.results25, go_sem, cw0_0, cw0_1, cw1_0, cw1_1, cw1_2, cw2_0, cw2_1]; try rfl) rfl ?_
                  have := dz_post (n1 := l1.length) (n2 := l2.length) (n3 := l3.length) (n4 := l4.length) (m1 := m1) (m2 := m2) (m3 := m3) (m4 := m4) (cf := cf) HZ.out rfl rfl HL3.out rfl hp hkp hsr hrf (by omega) (fun b off e => by have := hAf b off e; omega) (by have := HSN.out.n; omega)
                  simpa [netV] using this
            · by_cases e1 : z = 1
              · subst e1
                clear e0
                go_wp2_with fail
                refine (spec_l01Next p _ _ (HQ.out.src.below (Below.alloc (Below.refl _ w20) (Nat.le_refl _) _)) (by omega)).mono ?_
                rintro e w22 ⟨y, rfl, ya, _, yb, hs4, hk4⟩
                have yc := yb (by omega)
                have yn : y.toNat < 2 := by omega
                have hld := (hk4.cell w20.heap.size y.toNat (by simp) (by have := HQ.out.src.lt; omega)).trans (litH2 w20 2 1000000000 1000000001 y.toNat yn)
                have HQ2 := Lib.hid ((HQ.out.below (Below.alloc (Below.refl _ w20) (Nat.le_refl _) _)).keep hp hk4 hs4)
                clear hs4 hk4 yb HQ T1 T2 hc3 hf3
                obtain ⟨hl4, T4⟩ := HQ2.out.at2 HX2.out
                have hf4 : w22.frozen? ⟨gb, 0, none⟩ = false := by
                  obtain ⟨gz, cz, he, _, _, ha⟩ := HQ2.out.o2.arr hn2
                  injection he with he
                  injection he with he
                  injection he with he
                  subst he
                  exact ha.free (by omega)
                go_wp2_with fail
                have HZ := Lib.hid (Q4.dz (wr := w22.setCell ⟨gb, 0, none⟩ (.int .i64 (pick [1000000000, 1000000001] y.toNat))) (HQ2.out.set2 hp rfl 0 hn2 _) rfl (by simp) rfl rfl (by omega) (by rw [List.length_set]; omega) (by omega) (by omega))
                clear hld HQ2 T4 hf4
                generalize World.setCell w22 _ _ = w23 at *
                have hpw := hp
                have hzb := HZ.out.b2.lt
                have hzs := HZ.out.src.lt
                have hzX := HZ.out.sX
                refine wp_region_tb (R := Zr) [some 133, some 134, some 135, some 136, some 137, some 138, some 139, some 140, some 141, some 142, none, none, none] _ (by intro u; simp only [frs, Act.put, List.setIfInBounds_toArray, List.set_cons_zero, List.set_cons_succ, Nat.reduceAdd]; exact rfl) (fun ρ j => ([.agg #[.slice A N'.nodes.length c, .slice Bq N'.pipes.length d], (.slice (some ⟨ga, 0, none⟩) l1.length m1), (.slice (some ⟨gb, 0, none⟩) l2.length m2), (.slice (some ⟨gc, 0, none⟩) l3.length m3), .agg #[(.slice (some ⟨ga, 0, none⟩) l1.length m1), (.slice (some ⟨gb, 0, none⟩) l2.length m2), (.slice (some ⟨gc, 0, none⟩) l3.length m3)], .pointer (some ⟨p, 0, none⟩), .agg #[.slice A N'.nodes.length c, .slice Bq N'.pipes.length d], ρ.v, (.slice a4 l4.length m4), .agg #[ρ.v, (.slice a4 l4.length m4)], undef, undef, undef] : List Value).getD j undef) (WW3 p w.heap.size 10 11 12 7 [.slice A N'.nodes.length c, .slice Bq N'.pipes.length d] [(.slice (some ⟨ga, 0, none⟩) l1.length m1), (.slice (some ⟨gb, 0, none⟩) l2.length m2), (.slice (some ⟨gc, 0, none⟩) l3.length m3)] (fun v => [v, (.slice a4 l4.length m4)]) (N'.pipes.length + 1) w23) (by kernel_rfl) (by kernel_rfl) Zr.zero (WW3.start (Keep.of_below _ (Below.drew (Below.refl _ _))) (HZ.out.src.below (Below.drew (Below.refl _ _))) (HZ.out.b0.below (Below.drew (Below.refl w23.heap.size _)) HZ.out.b0.lt) (HZ.out.b1.below (Below.drew (Below.refl w23.heap.size _)) HZ.out.b1.lt) (HZ.out.b2.below (Below.drew (Below.refl w23.heap.size _)) HZ.out.b2.lt)) ?_ ?_
                · intro ii hii L ρ u wx hl hp hc hu hn hW
                  have hii : ii < 13 := hii
                  have HNo := Lib.hid hn
                  clear hn
                  have hii : ii = 0 ∨ ii = 1 ∨ ii = 2 ∨ ii = 3 ∨ ii = 4 ∨ ii = 5 ∨ ii = 6 ∨ ii = 7 ∨ ii = 8 ∨ ii = 9 ∨ ii = 10 ∨ ii = 11 ∨ ii = 12 := by omega
                  rcases hii with rfl | rfl | rfl | rfl | rfl | rfl | rfl | rfl | rfl | rfl | rfl | rfl | rfl
                  · have hbX := HZ.out.bX.keep hW.kp (fun q => by omega)
                    have xx0 := hbX.cell 0 rfl
                    have xx1 := hbX.cell 1 rfl
                    clear hbX
                    refine wpOp_go (E := True) rfl rfl (fun K' hK => ?_)
                    go_simp
                    refine hK.out _ _ ⟨ρ, (by simp only [put]; rfl), fun _ _ => rfl, hW.pure (by omega) (by omega) (by omega) (by omega)⟩
                  · refine wpOp_go (E := True) rfl rfl (fun K' hK => ?_)
                    go_simp
                    refine hK.out _ _ ⟨ρ, (by simp only [put]; rfl), fun _ _ => rfl, hW.pure (by omega) (by omega) (by omega) (by omega)⟩
                  · refine wpOp_go (E := True) rfl rfl (fun K' hK => ?_)
                    go_simp
                    refine hK.out _ _ ⟨ρ, (by simp only [put]; rfl), fun _ _ => rfl, hW.pure (by omega) (by omega) (by omega) (by omega)⟩
                  · refine wpOp_go (E := True) rfl rfl (fun K' hK => ?_)
                    go_simp
                    refine hK.out _ _ ⟨ρ, (by simp only [put]; rfl), fun _ _ => rfl, hW.pure (by omega) (by omega) (by omega) (by omega)⟩
                  · have e1 : u 1 = (.slice (some ⟨ga, 0, none⟩) l1.length m1) := hu 1 (all_of hp (by kernel_rfl))
                    have e2 : u 2 = (.slice (some ⟨gb, 0, none⟩) l2.length m2) := hu 2 (all_of hp (by kernel_rfl))
                    have e3 : u 3 = (.slice (some ⟨gc, 0, none⟩) l3.length m3) := hu 3 (all_of hp (by kernel_rfl))
                    refine wpOp_go (E := True) rfl rfl (fun K' hK => ?_)
                    go_simp
                    refine hK.out _ _ ⟨ρ, (by simp only [put, e1, e2, e3]; rfl), fun _ _ => rfl, hW.pure (by omega) (by omega) (by omega) (by omega)⟩
                  · refine wpOp_go (E := True) rfl rfl (fun K' hK => ?_)
                    go_simp
                    refine hK.out _ _ ⟨ρ, (by simp only [put]; rfl), fun _ _ => rfl, hW.pure (by omega) (by omega) (by omega) (by omega)⟩
                  · have hbX := HZ.out.bX.keep hW.kp (fun q => by omega)
                    have xx0 := hbX.cell 0 rfl
                    have xx1 := hbX.cell 1 rfl
                    clear hbX
                    refine wpOp_go (E := True) rfl rfl (fun K' hK => ?_)
                    go_simp
                    refine hK.out _ _ ⟨ρ, (by simp only [put]; rfl), fun _ _ => rfl, hW.pure (by omega) (by omega) (by omega) (by omega)⟩
                  · have e5 : u 5 = .pointer (some ⟨p, 0, none⟩) := hu 5 (all_of hp (by kernel_rfl))
                    have e6 : u 6 = .agg #[.slice A N'.nodes.length c, .slice Bq N'.pipes.length d] := hu 6 (all_of hp (by kernel_rfl))
                    refine wpOp_go (E := True) rfl rfl (fun K' hK => ?_)
                    go_simp
                    go_at_call 50
                    have n9 : L 9 = false := no_later hc hl (by kernel_rfl)
                    have n12 : L 12 = false := no_later hc n9 (by kernel_rfl)
                    refine (spec_l05DrawFlows p A Bq _ c _ d _ hW.sr (by omega)).mono ?_
                    rintro e' w5 ⟨Af, cf, fl, rfl, hM, hrf, hs5, hk5, hAf⟩
                    refine hK.out _ _ ⟨⟨ρ.b, ρ.r, ρ.c, .slice Af fl.length cf⟩, (by simp only [put, e5, e6]; rfl), fun j hj => by
                        have n9 : L 9 = false := no_later hc hl (by kernel_rfl)
                        have n12 : L 12 = false := no_later hc n9 (by kernel_rfl)
                        match j, hj with
                        | 0, _ => rfl
                        | 1, _ => rfl
                        | 2, _ => rfl
                        | 3, _ => rfl
                        | 4, _ => rfl
                        | 5, _ => rfl
                        | 6, _ => rfl
                        | 7, hj => rw [hl] at hj; cases hj
                        | 8, _ => rfl
                        | 9, hj => rw [n9] at hj; cases hj
                        | 10, _ => rfl
                        | 11, _ => rfl
                        | 12, hj => rw [n12] at hj; cases hj
                        | _ + 13, _ => rfl, hW.call (by omega) (by omega) (by omega) n12 hk5 hs5 hpw hM hrf (fun b off e => (hAf b off e).1)⟩
                  · refine wpOp_go (E := True) rfl rfl (fun K' hK => ?_)
                    go_simp
                    refine hK.out _ _ ⟨ρ, (by simp only [put]; rfl), fun _ _ => rfl, hW.pure (by omega) (by omega) (by omega) (by omega)⟩
                  · have e7 : u 7 = ρ.v := hu 7 (all_of hp (by kernel_rfl))
                    have e8 : u 8 = (.slice a4 l4.length m4) := hu 8 (all_of hp (by kernel_rfl))
                    obtain ⟨Af9, cf9, fl9, hv9, -⟩ := hW.vc (all_of (d := 7) hp (by kernel_rfl))
                    rw [hv9] at e7
                    refine wpOp_go (E := True) rfl rfl (fun K' hK => ?_)
                    go_simp
                    refine hK.out _ _ ⟨ρ, (by simp only [put, e7, e8, ← hv9]; rfl), fun _ _ => rfl, hW.pure (by omega) (by omega) (by omega) (by omega)⟩
                  · have e0 : u 0 = .agg #[.slice A N'.nodes.length c, .slice Bq N'.pipes.length d] := hu 0 (all_of hp (by kernel_rfl))
                    have hb0 := hW.s1 hl
                    have hyX := hb0.lt
                    have xx0 := hb0.cell 0 rfl
                    have xx1 := hb0.cell 1 rfl
                    have xf0 := hb0.frozen 0 rfl
                    have xf1 := hb0.frozen 1 rfl
                    clear hb0
                    refine wpOp_go (E := True) rfl rfl (fun K' hK => ?_)
                    go_simp
                    refine hK.out _ _ ⟨ρ, (by simp only [put, e0]; rfl), fun _ _ => rfl, hW.put1 (by omega) (by omega) (by omega) hpw (by omega) (((Keep.refl (· = w.heap.size) _).one _).one _) (bx2 (by simp; omega) (by simp [go_sem, xx0, xx1]) (by simp [go_sem, xf0]) (by simp [go_sem, xx0, xx1]) (by simp [go_sem, xf1]))⟩
                  · have e4 : u 4 = .agg #[(.slice (some ⟨ga, 0, none⟩) l1.length m1), (.slice (some ⟨gb, 0, none⟩) l2.length m2), (.slice (some ⟨gc, 0, none⟩) l3.length m3)] := hu 4 (all_of hp (by kernel_rfl))
                    have hb0 := hW.s2 hl
                    have hyX := hb0.lt
                    have xx0 := hb0.cell 0 rfl
                    have xx1 := hb0.cell 1 rfl
                    have xx2 := hb0.cell 2 rfl
                    have xf0 := hb0.frozen 0 rfl
                    have xf1 := hb0.frozen 1 rfl
                    have xf2 := hb0.frozen 2 rfl
                    clear hb0
                    refine wpOp_go (E := True) rfl rfl (fun K' hK => ?_)
                    go_simp
                    refine hK.out _ _ ⟨ρ, (by simp only [put, e4]; rfl), fun _ _ => rfl, hW.put2 (by omega) (by omega) (by omega) hpw (by omega) ((((Keep.refl (· = (w.heap.size + 1)) _).one _).one _).one _) (bx3 (by simp; omega) (by simp [go_sem, xx0, xx1, xx2]) (by simp [go_sem, xf0]) (by simp [go_sem, xx0, xx1, xx2]) (by simp [go_sem, xf1]) (by simp [go_sem, xx0, xx1, xx2]) (by simp [go_sem, xf2]))⟩
                  · have e9 : u 9 = .agg #[ρ.v, (.slice a4 l4.length m4)] := hu 9 (all_of hp (by kernel_rfl))
                    obtain ⟨Af9, cf9, fl9, hv9, -⟩ := hW.vc (all_of (d := 7) (hc 9 (all_of (d := 9) hp (by kernel_rfl))) (by kernel_rfl))
                    rw [hv9] at e9
                    have hb0 := hW.s3 hl
                    have hyX := hb0.lt
                    have xx0 := hb0.cell 0 rfl
                    have xx1 := hb0.cell 1 rfl
                    have xf0 := hb0.frozen 0 rfl
                    have xf1 := hb0.frozen 1 rfl
                    clear hb0
                    refine wpOp_go (E := True) rfl rfl (fun K' hK => ?_)
                    go_simp
                    refine hK.out _ _ ⟨ρ, (by simp only [put, e9]; rfl), fun _ _ => rfl, hW.put3 (by omega) (by omega) (by omega) hpw (by omega) (((Keep.refl (· = (w.heap.size + 2)) _).one _).one _) (by show Bx _ _ [ρ.v, _]; rw [hv9]; exact bx2 (by simp; omega) (by simp [go_sem, xx0, xx1]) (by simp [go_sem, xf0]) (by simp [go_sem, xx0, xx1]) (by simp [go_sem, xf1]))⟩
                · intro L ρ u wx hall hu hW
                  have hb0 := hW.t1 (hall 10 (by show 10 < 13; omega))
                  have hb1 := hW.t2 (hall 11 (by show 11 < 13; omega))
                  have hb2 := hW.t3 (hall 12 (by show 12 < 13; omega))
                  obtain ⟨Af, cf, fl, hv, hM, hrf, hAf⟩ := hW.vc (hall 7 (by show 7 < 13; omega))
                  rw [hv] at hb2
                  have cw0_0 := hb0.cell 0 rfl
                  have cw0_1 := hb0.cell 1 rfl
                  have cw1_0 := hb1.cell 0 rfl
                  have cw1_1 := hb1.cell 1 rfl
                  have cw1_2 := hb1.cell 2 rfl
                  have cw2_0 := hb2.cell 0 rfl
                  have cw2_1 := hb2.cell 1 rfl
                  have hkp := hW.kp
                  have hsr := hW.sr
                  have hkz := hkp.size
                  clear hu hall hW hb0 hb1 hb2 hv
                  go_wp2
                  refine bodyPost_ret (by simp [results, Try.results25, go_sem, cw0_0, cw0_1, cw1_0, cw1_1, cw1_2, cw2_0, cw2_1]; try rfl) rfl ?_
                  have := dz_post (n1 := l1.length) (n2 := l2.length) (n3 := l3.length) (n4 := l4.length) (m1 := m1) (m2 := m2) (m3 := m3) (m4 := m4) (cf := cf) HZ.out rfl (by simp) rfl rfl hp hkp hsr hrf (by omega) (fun b off e => by have := hAf b off e; omega) (by have := HSN.out.n; omega)
                  simpa [netV] using this
              · by_cases e2 : z = 2
                · subst e2
                  clear e0 e1
                  go_wp2_with ((at_builtin; refine wp_app1x _ rfl (.tmp 126) (.tmp 127) 28 rfl (w1.heap.size + 1) info_i64 Try.underlying28 rfl (by omega) (by omega) _ _ _ rfl (HQ.out.o4.alloc _) _ 1 1 [iV ((0 : Int))] rfl rfl (by intro j u hu; match j, hu with | 0, hu => (simp at hu; subst hu; first | (simp; done) | exact cell_newF _ _ _ _ _ _ (by simp) rfl) | j + 1, hu => simp at hu) (by simp [Value.oneCell']) (by omega) (by omega) (by first | omega | (simp; done) | (simp; omega)) ?_; intro v7 w7 hO7 hb7 hF7))
                  obtain ⟨L4, hQ4, hL4⟩ : ∃ L4 : List Int, Q4 w p w1.heap.size (w1.heap.size + 1) A Bq c d N' (.slice (some ⟨ga, 0, none⟩) l1.length m1) (.slice (some ⟨gb, 0, none⟩) l2.length m2) (.slice (some ⟨gc, 0, none⟩) l3.length m3) v7 l1 l2 l3 L4 w7 ∧ L4.length ≤ 8 := ⟨l4 ++ [0], (HQ.out.below (Below.alloc (Below.refl _ w20) (Nat.le_refl _) _)).app4 (l' := l4 ++ [0]) hp (by simpa using hO7) hb7 hF7, by simp; omega⟩
                  clear hO7 hb7 hF7 HQ T1 T2 hc3 hf3
                  obtain ⟨a5, m5, rfl, -, -, -⟩ := hQ4.o4.val
                  have HZ := Lib.hid (hQ4.dz rfl rfl rfl rfl (by omega) (by omega) (by omega) hL4)
                  clear hQ4
                  go_wp2_with fail
                  have hpw := hp
                  have hzb := HZ.out.b2.lt
                  have hzs := HZ.out.src.lt
                  have hzX := HZ.out.sX
                  refine wp_region_tb (R := Zr) [some 133, some 134, some 135, some 136, some 137, some 138, some 139, some 140, some 141, some 142, none, none, none] _ (by intro u; simp only [frs, Act.put, List.setIfInBounds_toArray, List.set_cons_zero, List.set_cons_succ, Nat.reduceAdd]; exact rfl) (fun ρ j => ([.agg #[.slice A N'.nodes.length c, .slice Bq N'.pipes.length d], (.slice (some ⟨ga, 0, none⟩) l1.length m1), (.slice (some ⟨gb, 0, none⟩) l2.length m2), (.slice (some ⟨gc, 0, none⟩) l3.length m3), .agg #[(.slice (some ⟨ga, 0, none⟩) l1.length m1), (.slice (some ⟨gb, 0, none⟩) l2.length m2), (.slice (some ⟨gc, 0, none⟩) l3.length m3)], .pointer (some ⟨p, 0, none⟩), .agg #[.slice A N'.nodes.length c, .slice Bq N'.pipes.length d], ρ.v, (.slice a5 L4.length m5), .agg #[ρ.v, (.slice a5 L4.length m5)], undef, undef, undef] : List Value).getD j undef) (WW3 p w.heap.size 10 11 12 7 [.slice A N'.nodes.length c, .slice Bq N'.pipes.length d] [(.slice (some ⟨ga, 0, none⟩) l1.length m1), (.slice (some ⟨gb, 0, none⟩) l2.length m2), (.slice (some ⟨gc, 0, none⟩) l3.length m3)] (fun v => [v, (.slice a5 L4.length m5)]) (N'.pipes.length + 1) w7) (by kernel_rfl) (by kernel_rfl) Zr.zero (WW3.start (Keep.of_below _ (Below.drew (Below.refl _ _))) (HZ.out.src.below (Below.drew (Below.refl _ _))) (HZ.out.b0.below (Below.drew (Below.refl w7.heap.size _)) HZ.out.b0.lt) (HZ.out.b1.below (Below.drew (Below.refl w7.heap.size _)) HZ.out.b1.lt) (HZ.out.b2.below (Below.drew (Below.refl w7.heap.size _)) HZ.out.b2.lt)) ?_ ?_
                  · intro ii hii L ρ u wx hl hp hc hu hn hW
                    have hii : ii < 13 := hii
                    have HNo := Lib.hid hn
                    clear hn
                    have hii : ii = 0 ∨ ii = 1 ∨ ii = 2 ∨ ii = 3 ∨ ii = 4 ∨ ii = 5 ∨ ii = 6 ∨ ii = 7 ∨ ii = 8 ∨ ii = 9 ∨ ii = 10 ∨ ii = 11 ∨ ii = 12 := by omega
                    rcases hii with rfl | rfl | rfl | rfl | rfl | rfl | rfl | rfl | rfl | rfl | rfl | rfl | rfl
                    · have hbX := HZ.out.bX.keep hW.kp (fun q => by omega)
                      have xx0 := hbX.cell 0 rfl
                      have xx1 := hbX.cell 1 rfl
                      clear hbX
                      refine wpOp_go (E := True) rfl rfl (fun K' hK => ?_)
                      go_simp
                      refine hK.out _ _ ⟨ρ, (by simp only [put]; rfl), fun _ _ => rfl, hW.pure (by omega) (by omega) (by omega) (by omega)⟩
                    · refine wpOp_go (E := True) rfl rfl (fun K' hK => ?_)
                      go_simp
                      refine hK.out _ _ ⟨ρ, (by simp only [put]; rfl), fun _ _ => rfl, hW.pure (by omega) (by omega) (by omega) (by omega)⟩
                    · refine wpOp_go (E := True) rfl rfl (fun K' hK => ?_)
                      go_simp
                      refine hK.out _ _ ⟨ρ, (by simp only [put]; rfl), fun _ _ => rfl, hW.pure (by omega) (by omega) (by omega) (by omega)⟩
                    · refine wpOp_go (E := True) rfl rfl (fun K' hK => ?_)
                      go_simp
                      refine hK.out _ _ ⟨ρ, (by simp only [put]; rfl), fun _ _ => rfl, hW.pure (by omega) (by omega) (by omega) (by omega)⟩
                    · have e1 : u 1 = (.slice (some ⟨ga, 0, none⟩) l1.length m1) := hu 1 (all_of hp (by kernel_rfl))
                      have e2 : u 2 = (.slice (some ⟨gb, 0, none⟩) l2.length m2) := hu 2 (all_of hp (by kernel_rfl))
                      have e3 : u 3 = (.slice (some ⟨gc, 0, none⟩) l3.length m3) := hu 3 (all_of hp (by kernel_rfl))
                      refine wpOp_go (E := True) rfl rfl (fun K' hK => ?_)
                      go_simp
                      refine hK.out _ _ ⟨ρ, (by simp only [put, e1, e2, e3]; rfl), fun _ _ => rfl, hW.pure (by omega) (by omega) (by omega) (by omega)⟩
                    · refine wpOp_go (E := True) rfl rfl (fun K' hK => ?_)
                      go_simp
                      refine hK.out _ _ ⟨ρ, (by simp only [put]; rfl), fun _ _ => rfl, hW.pure (by omega) (by omega) (by omega) (by omega)⟩
                    · have hbX := HZ.out.bX.keep hW.kp (fun q => by omega)
                      have xx0 := hbX.cell 0 rfl
                      have xx1 := hbX.cell 1 rfl
                      clear hbX
                      refine wpOp_go (E := True) rfl rfl (fun K' hK => ?_)
                      go_simp
                      refine hK.out _ _ ⟨ρ, (by simp only [put]; rfl), fun _ _ => rfl, hW.pure (by omega) (by omega) (by omega) (by omega)⟩
                    · have e5 : u 5 = .pointer (some ⟨p, 0, none⟩) := hu 5 (all_of hp (by kernel_rfl))
                      have e6 : u 6 = .agg #[.slice A N'.nodes.length c, .slice Bq N'.pipes.length d] := hu 6 (all_of hp (by kernel_rfl))
                      refine wpOp_go (E := True) rfl rfl (fun K' hK => ?_)
                      go_simp
                      go_at_call 50
                      have n9 : L 9 = false := no_later hc hl (by kernel_rfl)
                      have n12 : L 12 = false := no_later hc n9 (by kernel_rfl)
                      refine (spec_l05DrawFlows p A Bq _ c _ d _ hW.sr (by omega)).mono ?_
                      rintro e' w5 ⟨Af, cf, fl, rfl, hM, hrf, hs5, hk5, hAf⟩
                      refine hK.out _ _ ⟨⟨ρ.b, ρ.r, ρ.c, .slice Af fl.length cf⟩, (by simp only [put, e5, e6]; rfl), fun j hj => by
                          have n9 : L 9 = false := no_later hc hl (by kernel_rfl)
                          have n12 : L 12 = false := no_later hc n9 (by kernel_rfl)
                          match j, hj with
                          | 0, _ => rfl
                          | 1, _ => rfl
                          | 2, _ => rfl
                          | 3, _ => rfl
                          | 4, _ => rfl
                          | 5, _ => rfl
                          | 6, _ => rfl
                          | 7, hj => rw [hl] at hj; cases hj
                          | 8, _ => rfl
                          | 9, hj => rw [n9] at hj; cases hj
                          | 10, _ => rfl
                          | 11, _ => rfl
                          | 12, hj => rw [n12] at hj; cases hj
                          | _ + 13, _ => rfl, hW.call (by omega) (by omega) (by omega) n12 hk5 hs5 hpw hM hrf (fun b off e => (hAf b off e).1)⟩
                    · refine wpOp_go (E := True) rfl rfl (fun K' hK => ?_)
                      go_simp
                      refine hK.out _ _ ⟨ρ, (by simp only [put]; rfl), fun _ _ => rfl, hW.pure (by omega) (by omega) (by omega) (by omega)⟩
                    · have e7 : u 7 = ρ.v := hu 7 (all_of hp (by kernel_rfl))
                      have e8 : u 8 = (.slice a5 L4.length m5) := hu 8 (all_of hp (by kernel_rfl))
                      obtain ⟨Af9, cf9, fl9, hv9, -⟩ := hW.vc (all_of (d := 7) hp (by kernel_rfl))
                      rw [hv9] at e7
                      refine wpOp_go (E := True) rfl rfl (fun K' hK => ?_)
                      go_simp
                      refine hK.out _ _ ⟨ρ, (by simp only [put, e7, e8, ← hv9]; rfl), fun _ _ => rfl, hW.pure (by omega) (by omega) (by omega) (by omega)⟩
                    · have e0 : u 0 = .agg #[.slice A N'.nodes.length c, .slice Bq N'.pipes.length d] := hu 0 (all_of hp (by kernel_rfl))
                      have hb0 := hW.s1 hl
                      have hyX := hb0.lt
                      have xx0 := hb0.cell 0 rfl
                      have xx1 := hb0.cell 1 rfl
                      have xf0 := hb0.frozen 0 rfl
                      have xf1 := hb0.frozen 1 rfl
                      clear hb0
                      refine wpOp_go (E := True) rfl rfl (fun K' hK => ?_)
                      go_simp
                      refine hK.out _ _ ⟨ρ, (by simp only [put, e0]; rfl), fun _ _ => rfl, hW.put1 (by omega) (by omega) (by omega) hpw (by omega) (((Keep.refl (· = w.heap.size) _).one _).one _) (bx2 (by simp; omega) (by simp [go_sem, xx0, xx1]) (by simp [go_sem, xf0]) (by simp [go_sem, xx0, xx1]) (by simp [go_sem, xf1]))⟩
                    · have e4 : u 4 = .agg #[(.slice (some ⟨ga, 0, none⟩) l1.length m1), (.slice (some ⟨gb, 0, none⟩) l2.length m2), (.slice (some ⟨gc, 0, none⟩) l3.length m3)] := hu 4 (all_of hp (by kernel_rfl))
                      have hb0 := hW.s2 hl
                      have hyX := hb0.lt
                      have xx0 := hb0.cell 0 rfl
                      have xx1 := hb0.cell 1 rfl
                      have xx2 := hb0.cell 2 rfl
                      have xf0 := hb0.frozen 0 rfl
                      have xf1 := hb0.frozen 1 rfl
                      have xf2 := hb0.frozen 2 rfl
                      clear hb0
                      refine wpOp_go (E := True) rfl rfl (fun K' hK => ?_)
                      go_simp
                      refine hK.out _ _ ⟨ρ, (by simp only [put, e4]; rfl), fun _ _ => rfl, hW.put2 (by omega) (by omega) (by omega) hpw (by omega) ((((Keep.refl (· = (w.heap.size + 1)) _).one _).one _).one _) (bx3 (by simp; omega) (by simp [go_sem, xx0, xx1, xx2]) (by simp [go_sem, xf0]) (by simp [go_sem, xx0, xx1, xx2]) (by simp [go_sem, xf1]) (by simp [go_sem, xx0, xx1, xx2]) (by simp [go_sem, xf2]))⟩
                    · have e9 : u 9 = .agg #[ρ.v, (.slice a5 L4.length m5)] := hu 9 (all_of hp (by kernel_rfl))
                      obtain ⟨Af9, cf9, fl9, hv9, -⟩ := hW.vc (all_of (d := 7) (hc 9 (all_of (d := 9) hp (by kernel_rfl))) (by kernel_rfl))
                      rw [hv9] at e9
                      have hb0 := hW.s3 hl
                      have hyX := hb0.lt
                      have xx0 := hb0.cell 0 rfl
                      have xx1 := hb0.cell 1 rfl
                      have xf0 := hb0.frozen 0 rfl
                      have xf1 := hb0.frozen 1 rfl
                      clear hb0
                      refine wpOp_go (E := True) rfl rfl (fun K' hK => ?_)
                      go_simp
                      refine hK.out _ _ ⟨ρ, (by simp only [put, e9]; rfl), fun _ _ => rfl, hW.put3 (by omega) (by omega) (by omega) hpw (by omega) (((Keep.refl (· = (w.heap.size + 2)) _).one _).one _) (by show Bx _ _ [ρ.v, _]; rw [hv9]; exact bx2 (by simp; omega) (by simp [go_sem, xx0, xx1]) (by simp [go_sem, xf0]) (by simp [go_sem, xx0, xx1]) (by simp [go_sem, xf1]))⟩
                  · intro L ρ u wx hall hu hW
                    have hb0 := hW.t1 (hall 10 (by show 10 < 13; omega))
                    have hb1 := hW.t2 (hall 11 (by show 11 < 13; omega))
                    have hb2 := hW.t3 (hall 12 (by show 12 < 13; omega))
                    obtain ⟨Af, cf, fl, hv, hM, hrf, hAf⟩ := hW.vc (hall 7 (by show 7 < 13; omega))
                    rw [hv] at hb2
                    have cw0_0 := hb0.cell 0 rfl
                    have cw0_1 := hb0.cell 1 rfl
                    have cw1_0 := hb1.cell 0 rfl
                    have cw1_1 := hb1.cell 1 rfl
                    have cw1_2 := hb1.cell 2 rfl
                    have cw2_0 := hb2.cell 0 rfl
                    have cw2_1 := hb2.cell 1 rfl
                    have hkp := hW.kp
                    have hsr := hW.sr
                    have hkz := hkp.size
                    clear hu hall hW hb0 hb1 hb2 hv
                    go_wp2
                    refine bodyPost_ret (by simp [results, Try.results25, go_sem, cw0_0, cw0_1, cw1_0, cw1_1, cw1_2, cw2_0, cw2_1]; try rfl) rfl ?_
                    have := dz_post (n1 := l1.length) (n2 := l2.length) (n3 := l3.length) (n4 := L4.length) (m1 := m1) (m2 := m2) (m3 := m3) (m4 := m5) (cf := cf) HZ.out rfl rfl rfl rfl hp hkp hsr hrf (by omega) (fun b off e => by have := hAf b off e; omega) (by have := HSN.out.n; omega)
                    simpa [netV] using this
                · by_cases e3 : z = 3
                  · subst e3
                    clear e0 e1 e2
                    have hn1' : 1 ≤ l1.length := hn1
                    obtain ⟨tl, htl⟩ : ∃ tl, l1 = x1 :: tl := by
                      have h9 := HX1.out
                      cases hl9 : l1 with
                      | nil => rw [hl9] at h9; simp at h9
                      | cons a9 t9 => rw [hl9] at h9; simp at h9; exact ⟨t9, by rw [h9]⟩
                    have HT := Lib.hid (show l1.length - 1 = tl.length by rw [htl]; simp)
                    have HD := HQ.out.dz rfl rfl rfl rfl (by omega) (by omega) (by omega) (by omega)
                    have HC1 := Lib.hid (show l1.length ≤ m1 from by
                      obtain ⟨gz, cz, he, _, hcz, _⟩ := HQ.out.o1.arr hn1
                      injection he with _ _ he
                      omega)
                    by_cases hm1 : m1 = 1
                    · have HZ := Lib.hid (DZ.nil1 HD)
                      have HT0 := Lib.hid (show l1.length - 1 = ([] : List Int).length by have := HC1.out; simp; omega)
                      clear HD HQ T1 T2 hc3 hf3 htl
                      go_wp2_with fail
                      have hpw := hp
                      have hzb := HZ.out.b2.lt
                      have hzs := HZ.out.src.lt
                      have hzX := HZ.out.sX
                      refine wp_region_tb (R := Zr) [some 133, some 134, some 135, some 136, some 137, some 138, some 139, some 140, some 141, some 142, none, none, none] _ (by intro u; simp only [frs, Act.put, List.setIfInBounds_toArray, List.set_cons_zero, List.set_cons_succ, Nat.reduceAdd]; exact rfl) (fun ρ j => ([.agg #[.slice A N'.nodes.length c, .slice Bq N'.pipes.length d], (.slice (some ⟨ga, 0, none⟩) (l1.length - 1) 0), (.slice (some ⟨gb, 0, none⟩) l2.length m2), (.slice (some ⟨gc, 0, none⟩) l3.length m3), .agg #[(.slice (some ⟨ga, 0, none⟩) (l1.length - 1) 0), (.slice (some ⟨gb, 0, none⟩) l2.length m2), (.slice (some ⟨gc, 0, none⟩) l3.length m3)], .pointer (some ⟨p, 0, none⟩), .agg #[.slice A N'.nodes.length c, .slice Bq N'.pipes.length d], ρ.v, (.slice a4 l4.length m4), .agg #[ρ.v, (.slice a4 l4.length m4)], undef, undef, undef] : List Value).getD j undef) (WW3 p w.heap.size 10 11 12 7 [.slice A N'.nodes.length c, .slice Bq N'.pipes.length d] [(.slice (some ⟨ga, 0, none⟩) (l1.length - 1) 0), (.slice (some ⟨gb, 0, none⟩) l2.length m2), (.slice (some ⟨gc, 0, none⟩) l3.length m3)] (fun v => [v, (.slice a4 l4.length m4)]) (N'.pipes.length + 1) w20) (by kernel_rfl) (by kernel_rfl) Zr.zero (WW3.start (Keep.of_below _ (Below.drew (Below.refl _ _))) (HZ.out.src.below (Below.drew (Below.refl _ _))) (HZ.out.b0.below (Below.drew (Below.refl w20.heap.size _)) HZ.out.b0.lt) (HZ.out.b1.below (Below.drew (Below.refl w20.heap.size _)) HZ.out.b1.lt) (HZ.out.b2.below (Below.drew (Below.refl w20.heap.size _)) HZ.out.b2.lt)) ?_ ?_
                      · intro ii hii L ρ u wx hl hp hc hu hn hW
                        have hii : ii < 13 := hii
                        have HNo := Lib.hid hn
                        clear hn
                        have hii : ii = 0 ∨ ii = 1 ∨ ii = 2 ∨ ii = 3 ∨ ii = 4 ∨ ii = 5 ∨ ii = 6 ∨ ii = 7 ∨ ii = 8 ∨ ii = 9 ∨ ii = 10 ∨ ii = 11 ∨ ii = 12 := by omega
                        rcases hii with rfl | rfl | rfl | rfl | rfl | rfl | rfl | rfl | rfl | rfl | rfl | rfl | rfl
                        · have hbX := HZ.out.bX.keep hW.kp (fun q => by omega)
                          have xx0 := hbX.cell 0 rfl
                          have xx1 := hbX.cell 1 rfl
                          clear hbX
                          refine wpOp_go (E := True) rfl rfl (fun K' hK => ?_)
                          go_simp
                          refine hK.out _ _ ⟨ρ, (by simp only [put]; rfl), fun _ _ => rfl, hW.pure (by omega) (by omega) (by omega) (by omega)⟩
                        · refine wpOp_go (E := True) rfl rfl (fun K' hK => ?_)
                          go_simp
                          refine hK.out _ _ ⟨ρ, (by simp only [put]; rfl), fun _ _ => rfl, hW.pure (by omega) (by omega) (by omega) (by omega)⟩
                        · refine wpOp_go (E := True) rfl rfl (fun K' hK => ?_)
                          go_simp
                          refine hK.out _ _ ⟨ρ, (by simp only [put]; rfl), fun _ _ => rfl, hW.pure (by omega) (by omega) (by omega) (by omega)⟩
                        · refine wpOp_go (E := True) rfl rfl (fun K' hK => ?_)
                          go_simp
                          refine hK.out _ _ ⟨ρ, (by simp only [put]; rfl), fun _ _ => rfl, hW.pure (by omega) (by omega) (by omega) (by omega)⟩
                        · have e1 : u 1 = (.slice (some ⟨ga, 0, none⟩) (l1.length - 1) 0) := hu 1 (all_of hp (by kernel_rfl))
                          have e2 : u 2 = (.slice (some ⟨gb, 0, none⟩) l2.length m2) := hu 2 (all_of hp (by kernel_rfl))
                          have e3 : u 3 = (.slice (some ⟨gc, 0, none⟩) l3.length m3) := hu 3 (all_of hp (by kernel_rfl))
                          refine wpOp_go (E := True) rfl rfl (fun K' hK => ?_)
                          go_simp
                          refine hK.out _ _ ⟨ρ, (by simp only [put, e1, e2, e3]; rfl), fun _ _ => rfl, hW.pure (by omega) (by omega) (by omega) (by omega)⟩
                        · refine wpOp_go (E := True) rfl rfl (fun K' hK => ?_)
                          go_simp
                          refine hK.out _ _ ⟨ρ, (by simp only [put]; rfl), fun _ _ => rfl, hW.pure (by omega) (by omega) (by omega) (by omega)⟩
                        · have hbX := HZ.out.bX.keep hW.kp (fun q => by omega)
                          have xx0 := hbX.cell 0 rfl
                          have xx1 := hbX.cell 1 rfl
                          clear hbX
                          refine wpOp_go (E := True) rfl rfl (fun K' hK => ?_)
                          go_simp
                          refine hK.out _ _ ⟨ρ, (by simp only [put]; rfl), fun _ _ => rfl, hW.pure (by omega) (by omega) (by omega) (by omega)⟩
                        · have e5 : u 5 = .pointer (some ⟨p, 0, none⟩) := hu 5 (all_of hp (by kernel_rfl))
                          have e6 : u 6 = .agg #[.slice A N'.nodes.length c, .slice Bq N'.pipes.length d] := hu 6 (all_of hp (by kernel_rfl))
                          refine wpOp_go (E := True) rfl rfl (fun K' hK => ?_)
                          go_simp
                          go_at_call 50
                          have n9 : L 9 = false := no_later hc hl (by kernel_rfl)
                          have n12 : L 12 = false := no_later hc n9 (by kernel_rfl)
                          refine (spec_l05DrawFlows p A Bq _ c _ d _ hW.sr (by omega)).mono ?_
                          rintro e' w5 ⟨Af, cf, fl, rfl, hM, hrf, hs5, hk5, hAf⟩
                          refine hK.out _ _ ⟨⟨ρ.b, ρ.r, ρ.c, .slice Af fl.length cf⟩, (by simp only [put, e5, e6]; rfl), fun j hj => by
                              have n9 : L 9 = false := no_later hc hl (by kernel_rfl)
                              have n12 : L 12 = false := no_later hc n9 (by kernel_rfl)
                              match j, hj with
                              | 0, _ => rfl
                              | 1, _ => rfl
                              | 2, _ => rfl
                              | 3, _ => rfl
                              | 4, _ => rfl
                              | 5, _ => rfl
                              | 6, _ => rfl
                              | 7, hj => rw [hl] at hj; cases hj
                              | 8, _ => rfl
                              | 9, hj => rw [n9] at hj; cases hj
                              | 10, _ => rfl
                              | 11, _ => rfl
                              | 12, hj => rw [n12] at hj; cases hj
                              | _ + 13, _ => rfl, hW.call (by omega) (by omega) (by omega) n12 hk5 hs5 hpw hM hrf (fun b off e => (hAf b off e).1)⟩
                        · refine wpOp_go (E := True) rfl rfl (fun K' hK => ?_)
                          go_simp
                          refine hK.out _ _ ⟨ρ, (by simp only [put]; rfl), fun _ _ => rfl, hW.pure (by omega) (by omega) (by omega) (by omega)⟩
                        · have e7 : u 7 = ρ.v := hu 7 (all_of hp (by kernel_rfl))
                          have e8 : u 8 = (.slice a4 l4.length m4) := hu 8 (all_of hp (by kernel_rfl))
                          obtain ⟨Af9, cf9, fl9, hv9, -⟩ := hW.vc (all_of (d := 7) hp (by kernel_rfl))
                          rw [hv9] at e7
                          refine wpOp_go (E := True) rfl rfl (fun K' hK => ?_)
                          go_simp
                          refine hK.out _ _ ⟨ρ, (by simp only [put, e7, e8, ← hv9]; rfl), fun _ _ => rfl, hW.pure (by omega) (by omega) (by omega) (by omega)⟩
                        · have e0 : u 0 = .agg #[.slice A N'.nodes.length c, .slice Bq N'.pipes.length d] := hu 0 (all_of hp (by kernel_rfl))
                          have hb0 := hW.s1 hl
                          have hyX := hb0.lt
                          have xx0 := hb0.cell 0 rfl
                          have xx1 := hb0.cell 1 rfl
                          have xf0 := hb0.frozen 0 rfl
                          have xf1 := hb0.frozen 1 rfl
                          clear hb0
                          refine wpOp_go (E := True) rfl rfl (fun K' hK => ?_)
                          go_simp
                          refine hK.out _ _ ⟨ρ, (by simp only [put, e0]; rfl), fun _ _ => rfl, hW.put1 (by omega) (by omega) (by omega) hpw (by omega) (((Keep.refl (· = w.heap.size) _).one _).one _) (bx2 (by simp; omega) (by simp [go_sem, xx0, xx1]) (by simp [go_sem, xf0]) (by simp [go_sem, xx0, xx1]) (by simp [go_sem, xf1]))⟩
                        · have e4 : u 4 = .agg #[(.slice (some ⟨ga, 0, none⟩) (l1.length - 1) 0), (.slice (some ⟨gb, 0, none⟩) l2.length m2), (.slice (some ⟨gc, 0, none⟩) l3.length m3)] := hu 4 (all_of hp (by kernel_rfl))
                          have hb0 := hW.s2 hl
                          have hyX := hb0.lt
                          have xx0 := hb0.cell 0 rfl
                          have xx1 := hb0.cell 1 rfl
                          have xx2 := hb0.cell 2 rfl
                          have xf0 := hb0.frozen 0 rfl
                          have xf1 := hb0.frozen 1 rfl
                          have xf2 := hb0.frozen 2 rfl
                          clear hb0
                          refine wpOp_go (E := True) rfl rfl (fun K' hK => ?_)
                          go_simp
                          refine hK.out _ _ ⟨ρ, (by simp only [put, e4]; rfl), fun _ _ => rfl, hW.put2 (by omega) (by omega) (by omega) hpw (by omega) ((((Keep.refl (· = (w.heap.size + 1)) _).one _).one _).one _) (bx3 (by simp; omega) (by simp [go_sem, xx0, xx1, xx2]) (by simp [go_sem, xf0]) (by simp [go_sem, xx0, xx1, xx2]) (by simp [go_sem, xf1]) (by simp [go_sem, xx0, xx1, xx2]) (by simp [go_sem, xf2]))⟩
                        · have e9 : u 9 = .agg #[ρ.v, (.slice a4 l4.length m4)] := hu 9 (all_of hp (by kernel_rfl))
                          obtain ⟨Af9, cf9, fl9, hv9, -⟩ := hW.vc (all_of (d := 7) (hc 9 (all_of (d := 9) hp (by kernel_rfl))) (by kernel_rfl))
                          rw [hv9] at e9
                          have hb0 := hW.s3 hl
                          have hyX := hb0.lt
                          have xx0 := hb0.cell 0 rfl
                          have xx1 := hb0.cell 1 rfl
                          have xf0 := hb0.frozen 0 rfl
                          have xf1 := hb0.frozen 1 rfl
                          clear hb0
                          refine wpOp_go (E := True) rfl rfl (fun K' hK => ?_)
                          go_simp
                          refine hK.out _ _ ⟨ρ, (by simp only [put, e9]; rfl), fun _ _ => rfl, hW.put3 (by omega) (by omega) (by omega) hpw (by omega) (((Keep.refl (· = (w.heap.size + 2)) _).one _).one _) (by show Bx _ _ [ρ.v, _]; rw [hv9]; exact bx2 (by simp; omega) (by simp [go_sem, xx0, xx1]) (by simp [go_sem, xf0]) (by simp [go_sem, xx0, xx1]) (by simp [go_sem, xf1]))⟩
                      · intro L ρ u wx hall hu hW
                        have hb0 := hW.t1 (hall 10 (by show 10 < 13; omega))
                        have hb1 := hW.t2 (hall 11 (by show 11 < 13; omega))
                        have hb2 := hW.t3 (hall 12 (by show 12 < 13; omega))
                        obtain ⟨Af, cf, fl, hv, hM, hrf, hAf⟩ := hW.vc (hall 7 (by show 7 < 13; omega))
                        rw [hv] at hb2
                        have cw0_0 := hb0.cell 0 rfl
                        have cw0_1 := hb0.cell 1 rfl
                        have cw1_0 := hb1.cell 0 rfl
                        have cw1_1 := hb1.cell 1 rfl
                        have cw1_2 := hb1.cell 2 rfl
                        have cw2_0 := hb2.cell 0 rfl
                        have cw2_1 := hb2.cell 1 rfl
                        have hkp := hW.kp
                        have hsr := hW.sr
                        have hkz := hkp.size
                        clear hu hall hW hb0 hb1 hb2 hv
                        go_wp2
                        refine bodyPost_ret (by simp [results, Try.results25, go_sem, cw0_0, cw0_1, cw1_0, cw1_1, cw1_2, cw2_0, cw2_1]; try rfl) rfl ?_
                        have := dz_post (n1 := (l1.length - 1)) (n2 := l2.length) (n3 := l3.length) (n4 := l4.length) (m1 := 0) (m2 := m2) (m3 := m3) (m4 := m4) (cf := cf) HZ.out HT0.out rfl rfl rfl hp hkp hsr hrf (by omega) (fun b off e => by have := hAf b off e; omega) (by have := HSN.out.n; omega)
                        simpa [netV] using this
                    · have HZ := Lib.hid (DZ.tail (by rw [htl] at HD; exact HD))
                      clear HD HQ T1 T2 hc3 hf3 htl
                      go_wp2_with fail
                      have hpw := hp
                      have hzb := HZ.out.b2.lt
                      have hzs := HZ.out.src.lt
                      have hzX := HZ.out.sX
                      refine wp_region_tb (R := Zr) [some 133, some 134, some 135, some 136, some 137, some 138, some 139, some 140, some 141, some 142, none, none, none] _ (by intro u; simp only [frs, Act.put, List.setIfInBounds_toArray, List.set_cons_zero, List.set_cons_succ, Nat.reduceAdd]; exact rfl) (fun ρ j => ([.agg #[.slice A N'.nodes.length c, .slice Bq N'.pipes.length d], (.slice (some ⟨ga, 1, none⟩) (l1.length - 1) (m1 - 1)), (.slice (some ⟨gb, 0, none⟩) l2.length m2), (.slice (some ⟨gc, 0, none⟩) l3.length m3), .agg #[(.slice (some ⟨ga, 1, none⟩) (l1.length - 1) (m1 - 1)), (.slice (some ⟨gb, 0, none⟩) l2.length m2), (.slice (some ⟨gc, 0, none⟩) l3.length m3)], .pointer (some ⟨p, 0, none⟩), .agg #[.slice A N'.nodes.length c, .slice Bq N'.pipes.length d], ρ.v, (.slice a4 l4.length m4), .agg #[ρ.v, (.slice a4 l4.length m4)], undef, undef, undef] : List Value).getD j undef) (WW3 p w.heap.size 10 11 12 7 [.slice A N'.nodes.length c, .slice Bq N'.pipes.length d] [(.slice (some ⟨ga, 1, none⟩) (l1.length - 1) (m1 - 1)), (.slice (some ⟨gb, 0, none⟩) l2.length m2), (.slice (some ⟨gc, 0, none⟩) l3.length m3)] (fun v => [v, (.slice a4 l4.length m4)]) (N'.pipes.length + 1) w20) (by kernel_rfl) (by kernel_rfl) Zr.zero (WW3.start (Keep.of_below _ (Below.drew (Below.refl _ _))) (HZ.out.src.below (Below.drew (Below.refl _ _))) (HZ.out.b0.below (Below.drew (Below.refl w20.heap.size _)) HZ.out.b0.lt) (HZ.out.b1.below (Below.drew (Below.refl w20.heap.size _)) HZ.out.b1.lt) (HZ.out.b2.below (Below.drew (Below.refl w20.heap.size _)) HZ.out.b2.lt)) ?_ ?_
                      · intro ii hii L ρ u wx hl hp hc hu hn hW
                        have hii : ii < 13 := hii
                        have HNo := Lib.hid hn
                        clear hn
                        have hii : ii = 0 ∨ ii = 1 ∨ ii = 2 ∨ ii = 3 ∨ ii = 4 ∨ ii = 5 ∨ ii = 6 ∨ ii = 7 ∨ ii = 8 ∨ ii = 9 ∨ ii = 10 ∨ ii = 11 ∨ ii = 12 := by omega
                        rcases hii with rfl | rfl | rfl | rfl | rfl | rfl | rfl | rfl | rfl | rfl | rfl | rfl | rfl
                        · have hbX := HZ.out.bX.keep hW.kp (fun q => by omega)
                          have xx0 := hbX.cell 0 rfl
                          have xx1 := hbX.cell 1 rfl
                          clear hbX
                          refine wpOp_go (E := True) rfl rfl (fun K' hK => ?_)
                          go_simp
                          refine hK.out _ _ ⟨ρ, (by simp only [put]; rfl), fun _ _ => rfl, hW.pure (by omega) (by omega) (by omega) (by omega)⟩
                        · refine wpOp_go (E := True) rfl rfl (fun K' hK => ?_)
                          go_simp
                          refine hK.out _ _ ⟨ρ, (by simp only [put]; rfl), fun _ _ => rfl, hW.pure (by omega) (by omega) (by omega) (by omega)⟩
                        · refine wpOp_go (E := True) rfl rfl (fun K' hK => ?_)
                          go_simp
                          refine hK.out _ _ ⟨ρ, (by simp only [put]; rfl), fun _ _ => rfl, hW.pure (by omega) (by omega) (by omega) (by omega)⟩
                        · refine wpOp_go (E := True) rfl rfl (fun K' hK => ?_)
                          go_simp
                          refine hK.out _ _ ⟨ρ, (by simp only [put]; rfl), fun _ _ => rfl, hW.pure (by omega) (by omega) (by omega) (by omega)⟩
                        · have e1 : u 1 = (.slice (some ⟨ga, 1, none⟩) (l1.length - 1) (m1 - 1)) := hu 1 (all_of hp (by kernel_rfl))
                          have e2 : u 2 = (.slice (some ⟨gb, 0, none⟩) l2.length m2) := hu 2 (all_of hp (by kernel_rfl))
                          have e3 : u 3 = (.slice (some ⟨gc, 0, none⟩) l3.length m3) := hu 3 (all_of hp (by kernel_rfl))
                          refine wpOp_go (E := True) rfl rfl (fun K' hK => ?_)
                          go_simp
                          refine hK.out _ _ ⟨ρ, (by simp only [put, e1, e2, e3]; rfl), fun _ _ => rfl, hW.pure (by omega) (by omega) (by omega) (by omega)⟩
                        · refine wpOp_go (E := True) rfl rfl (fun K' hK => ?_)
                          go_simp
                          refine hK.out _ _ ⟨ρ, (by simp only [put]; rfl), fun _ _ => rfl, hW.pure (by omega) (by omega) (by omega) (by omega)⟩
                        · have hbX := HZ.out.bX.keep hW.kp (fun q => by omega)
                          have xx0 := hbX.cell 0 rfl
                          have xx1 := hbX.cell 1 rfl
                          clear hbX
                          refine wpOp_go (E := True) rfl rfl (fun K' hK => ?_)
                          go_simp
                          refine hK.out _ _ ⟨ρ, (by simp only [put]; rfl), fun _ _ => rfl, hW.pure (by omega) (by omega) (by omega) (by omega)⟩
                        · have e5 : u 5 = .pointer (some ⟨p, 0, none⟩) := hu 5 (all_of hp (by kernel_rfl))
                          have e6 : u 6 = .agg #[.slice A N'.nodes.length c, .slice Bq N'.pipes.length d] := hu 6 (all_of hp (by kernel_rfl))
                          refine wpOp_go (E := True) rfl rfl (fun K' hK => ?_)
                          go_simp
                          go_at_call 50
                          have n9 : L 9 = false := no_later hc hl (by kernel_rfl)
                          have n12 : L 12 = false := no_later hc n9 (by kernel_rfl)
                          refine (spec_l05DrawFlows p A Bq _ c _ d _ hW.sr (by omega)).mono ?_
                          rintro e' w5 ⟨Af, cf, fl, rfl, hM, hrf, hs5, hk5, hAf⟩
                          refine hK.out _ _ ⟨⟨ρ.b, ρ.r, ρ.c, .slice Af fl.length cf⟩, (by simp only [put, e5, e6]; rfl), fun j hj => by
                              have n9 : L 9 = false := no_later hc hl (by kernel_rfl)
                              have n12 : L 12 = false := no_later hc n9 (by kernel_rfl)
                              match j, hj with
                              | 0, _ => rfl
                              | 1, _ => rfl
                              | 2, _ => rfl
                              | 3, _ => rfl
                              | 4, _ => rfl
                              | 5, _ => rfl
                              | 6, _ => rfl
                              | 7, hj => rw [hl] at hj; cases hj
                              | 8, _ => rfl
                              | 9, hj => rw [n9] at hj; cases hj
                              | 10, _ => rfl
                              | 11, _ => rfl
                              | 12, hj => rw [n12] at hj; cases hj
                              | _ + 13, _ => rfl, hW.call (by omega) (by omega) (by omega) n12 hk5 hs5 hpw hM hrf (fun b off e => (hAf b off e).1)⟩
                        · refine wpOp_go (E := True) rfl rfl (fun K' hK => ?_)
                          go_simp
                          refine hK.out _ _ ⟨ρ, (by simp only [put]; rfl), fun _ _ => rfl, hW.pure (by omega) (by omega) (by omega) (by omega)⟩
                        · have e7 : u 7 = ρ.v := hu 7 (all_of hp (by kernel_rfl))
                          have e8 : u 8 = (.slice a4 l4.length m4) := hu 8 (all_of hp (by kernel_rfl))
                          obtain ⟨Af9, cf9, fl9, hv9, -⟩ := hW.vc (all_of (d := 7) hp (by kernel_rfl))
                          rw [hv9] at e7
                          refine wpOp_go (E := True) rfl rfl (fun K' hK => ?_)
                          go_simp
                          refine hK.out _ _ ⟨ρ, (by simp only [put, e7, e8, ← hv9]; rfl), fun _ _ => rfl, hW.pure (by omega) (by omega) (by omega) (by omega)⟩
                        · have e0 : u 0 = .agg #[.slice A N'.nodes.length c, .slice Bq N'.pipes.length d] := hu 0 (all_of hp (by kernel_rfl))
                          have hb0 := hW.s1 hl
                          have hyX := hb0.lt
                          have xx0 := hb0.cell 0 rfl
                          have xx1 := hb0.cell 1 rfl
                          have xf0 := hb0.frozen 0 rfl
                          have xf1 := hb0.frozen 1 rfl
                          clear hb0
                          refine wpOp_go (E := True) rfl rfl (fun K' hK => ?_)
                          go_simp
                          refine hK.out _ _ ⟨ρ, (by simp only [put, e0]; rfl), fun _ _ => rfl, hW.put1 (by omega) (by omega) (by omega) hpw (by omega) (((Keep.refl (· = w.heap.size) _).one _).one _) (bx2 (by simp; omega) (by simp [go_sem, xx0, xx1]) (by simp [go_sem, xf0]) (by simp [go_sem, xx0, xx1]) (by simp [go_sem, xf1]))⟩
                        · have e4 : u 4 = .agg #[(.slice (some ⟨ga, 1, none⟩) (l1.length - 1) (m1 - 1)), (.slice (some ⟨gb, 0, none⟩) l2.length m2), (.slice (some ⟨gc, 0, none⟩) l3.length m3)] := hu 4 (all_of hp (by kernel_rfl))
                          have hb0 := hW.s2 hl
                          have hyX := hb0.lt
                          have xx0 := hb0.cell 0 rfl
                          have xx1 := hb0.cell 1 rfl
                          have xx2 := hb0.cell 2 rfl
                          have xf0 := hb0.frozen 0 rfl
                          have xf1 := hb0.frozen 1 rfl
                          have xf2 := hb0.frozen 2 rfl
                          clear hb0
                          refine wpOp_go (E := True) rfl rfl (fun K' hK => ?_)
                          go_simp
                          refine hK.out _ _ ⟨ρ, (by simp only [put, e4]; rfl), fun _ _ => rfl, hW.put2 (by omega) (by omega) (by omega) hpw (by omega) ((((Keep.refl (· = (w.heap.size + 1)) _).one _).one _).one _) (bx3 (by simp; omega) (by simp [go_sem, xx0, xx1, xx2]) (by simp [go_sem, xf0]) (by simp [go_sem, xx0, xx1, xx2]) (by simp [go_sem, xf1]) (by simp [go_sem, xx0, xx1, xx2]) (by simp [go_sem, xf2]))⟩
                        · have e9 : u 9 = .agg #[ρ.v, (.slice a4 l4.length m4)] := hu 9 (all_of hp (by kernel_rfl))
                          obtain ⟨Af9, cf9, fl9, hv9, -⟩ := hW.vc (all_of (d := 7) (hc 9 (all_of (d := 9) hp (by kernel_rfl))) (by kernel_rfl))
                          rw [hv9] at e9
                          have hb0 := hW.s3 hl
                          have hyX := hb0.lt
                          have xx0 := hb0.cell 0 rfl
                          have xx1 := hb0.cell 1 rfl
                          have xf0 := hb0.frozen 0 rfl
                          have xf1 := hb0.frozen 1 rfl
                          clear hb0
                          refine wpOp_go (E := True) rfl rfl (fun K' hK => ?_)
                          go_simp
                          refine hK.out _ _ ⟨ρ, (by simp only [put, e9]; rfl), fun _ _ => rfl, hW.put3 (by omega) (by omega) (by omega) hpw (by omega) (((Keep.refl (· = (w.heap.size + 2)) _).one _).one _) (by show Bx _ _ [ρ.v, _]; rw [hv9]; exact bx2 (by simp; omega) (by simp [go_sem, xx0, xx1]) (by simp [go_sem, xf0]) (by simp [go_sem, xx0, xx1]) (by simp [go_sem, xf1]))⟩
                      · intro L ρ u wx hall hu hW
                        have hb0 := hW.t1 (hall 10 (by show 10 < 13; omega))
                        have hb1 := hW.t2 (hall 11 (by show 11 < 13; omega))
                        have hb2 := hW.t3 (hall 12 (by show 12 < 13; omega))
                        obtain ⟨Af, cf, fl, hv, hM, hrf, hAf⟩ := hW.vc (hall 7 (by show 7 < 13; omega))
                        rw [hv] at hb2
                        have cw0_0 := hb0.cell 0 rfl
                        have cw0_1 := hb0.cell 1 rfl
                        have cw1_0 := hb1.cell 0 rfl
                        have cw1_1 := hb1.cell 1 rfl
                        have cw1_2 := hb1.cell 2 rfl
                        have cw2_0 := hb2.cell 0 rfl
                        have cw2_1 := hb2.cell 1 rfl
                        have hkp := hW.kp
                        have hsr := hW.sr
                        have hkz := hkp.size
                        clear hu hall hW hb0 hb1 hb2 hv
                        go_wp2
                        refine bodyPost_ret (by simp [results, Try.results25, go_sem, cw0_0, cw0_1, cw1_0, cw1_1, cw1_2, cw2_0, cw2_1]; try rfl) rfl ?_
                        have := dz_post (n1 := (l1.length - 1)) (n2 := l2.length) (n3 := l3.length) (n4 := l4.length) (m1 := (m1 - 1)) (m2 := m2) (m3 := m3) (m4 := m4) (cf := cf) HZ.out HT.out rfl rfl rfl hp hkp hsr hrf (by omega) (fun b off e => by have := hAf b off e; omega) (by have := HSN.out.n; omega)
                        simpa [netV] using this
                  · have b0 : (z == 0) = false := by simpa using e0
                    have b1 : (z == 1) = false := by simpa using e1
                    have b2 : (z == 2) = false := by simpa using e2
                    have b3 : (z == 3) = false := by simpa using e3
                    have HZ := Lib.hid (HQ.out.dz rfl rfl rfl rfl (by omega) (by omega) (by omega) (by omega))
                    clear HQ T1 T2 hc3 hf3
                    go_wp2_with fail
                    have hpw := hp
                    have hzb := HZ.out.b2.lt
                    have hzs := HZ.out.src.lt
                    have hzX := HZ.out.sX
                    refine wp_region_tb (R := Zr) [some 133, some 134, some 135, some 136, some 137, some 138, some 139, some 140, some 141, some 142, none, none, none] _ (by intro u; simp only [frs, Act.put, List.setIfInBounds_toArray, List.set_cons_zero, List.set_cons_succ, Nat.reduceAdd]; exact rfl) (fun ρ j => ([.agg #[.slice A N'.nodes.length c, .slice Bq N'.pipes.length d], (.slice (some ⟨ga, 0, none⟩) l1.length m1), (.slice (some ⟨gb, 0, none⟩) l2.length m2), (.slice (some ⟨gc, 0, none⟩) l3.length m3), .agg #[(.slice (some ⟨ga, 0, none⟩) l1.length m1), (.slice (some ⟨gb, 0, none⟩) l2.length m2), (.slice (some ⟨gc, 0, none⟩) l3.length m3)], .pointer (some ⟨p, 0, none⟩), .agg #[.slice A N'.nodes.length c, .slice Bq N'.pipes.length d], ρ.v, (.slice a4 l4.length m4), .agg #[ρ.v, (.slice a4 l4.length m4)], undef, undef, undef] : List Value).getD j undef) (WW3 p w.heap.size 10 11 12 7 [.slice A N'.nodes.length c, .slice Bq N'.pipes.length d] [(.slice (some ⟨ga, 0, none⟩) l1.length m1), (.slice (some ⟨gb, 0, none⟩) l2.length m2), (.slice (some ⟨gc, 0, none⟩) l3.length m3)] (fun v => [v, (.slice a4 l4.length m4)]) (N'.pipes.length + 1) w20) (by kernel_rfl) (by kernel_rfl) Zr.zero (WW3.start (Keep.of_below _ (Below.drew (Below.refl _ _))) (HZ.out.src.below (Below.drew (Below.refl _ _))) (HZ.out.b0.below (Below.drew (Below.refl w20.heap.size _)) HZ.out.b0.lt) (HZ.out.b1.below (Below.drew (Below.refl w20.heap.size _)) HZ.out.b1.lt) (HZ.out.b2.below (Below.drew (Below.refl w20.heap.size _)) HZ.out.b2.lt)) ?_ ?_
                    · intro ii hii L ρ u wx hl hp hc hu hn hW
                      have hii : ii < 13 := hii
                      have HNo := Lib.hid hn
                      clear hn
                      have hii : ii = 0 ∨ ii = 1 ∨ ii = 2 ∨ ii = 3 ∨ ii = 4 ∨ ii = 5 ∨ ii = 6 ∨ ii = 7 ∨ ii = 8 ∨ ii = 9 ∨ ii = 10 ∨ ii = 11 ∨ ii = 12 := by omega
                      rcases hii with rfl | rfl | rfl | rfl | rfl | rfl | rfl | rfl | rfl | rfl | rfl | rfl | rfl
                      · have hbX := HZ.out.bX.keep hW.kp (fun q => by omega)
                        have xx0 := hbX.cell 0 rfl
                        have xx1 := hbX.cell 1 rfl
                        clear hbX
                        refine wpOp_go (E := True) rfl rfl (fun K' hK => ?_)
                        go_simp
                        refine hK.out _ _ ⟨ρ, (by simp only [put]; rfl), fun _ _ => rfl, hW.pure (by omega) (by omega) (by omega) (by omega)⟩
                      · refine wpOp_go (E := True) rfl rfl (fun K' hK => ?_)
                        go_simp
                        refine hK.out _ _ ⟨ρ, (by simp only [put]; rfl), fun _ _ => rfl, hW.pure (by omega) (by omega) (by omega) (by omega)⟩
                      · refine wpOp_go (E := True) rfl rfl (fun K' hK => ?_)
                        go_simp
                        refine hK.out _ _ ⟨ρ, (by simp only [put]; rfl), fun _ _ => rfl, hW.pure (by omega) (by omega) (by omega) (by omega)⟩
                      · refine wpOp_go (E := True) rfl rfl (fun K' hK => ?_)
                        go_simp
                        refine hK.out _ _ ⟨ρ, (by simp only [put]; rfl), fun _ _ => rfl, hW.pure (by omega) (by omega) (by omega) (by omega)⟩
                      · have e1 : u 1 = (.slice (some ⟨ga, 0, none⟩) l1.length m1) := hu 1 (all_of hp (by kernel_rfl))
                        have e2 : u 2 = (.slice (some ⟨gb, 0, none⟩) l2.length m2) := hu 2 (all_of hp (by kernel_rfl))
                        have e3 : u 3 = (.slice (some ⟨gc, 0, none⟩) l3.length m3) := hu 3 (all_of hp (by kernel_rfl))
                        refine wpOp_go (E := True) rfl rfl (fun K' hK => ?_)
                        go_simp
                        refine hK.out _ _ ⟨ρ, (by simp only [put, e1, e2, e3]; rfl), fun _ _ => rfl, hW.pure (by omega) (by omega) (by omega) (by omega)⟩
                      · refine wpOp_go (E := True) rfl rfl (fun K' hK => ?_)
                        go_simp
                        refine hK.out _ _ ⟨ρ, (by simp only [put]; rfl), fun _ _ => rfl, hW.pure (by omega) (by omega) (by omega) (by omega)⟩
                      · have hbX := HZ.out.bX.keep hW.kp (fun q => by omega)
                        have xx0 := hbX.cell 0 rfl
                        have xx1 := hbX.cell 1 rfl
                        clear hbX
                        refine wpOp_go (E := True) rfl rfl (fun K' hK => ?_)
                        go_simp
                        refine hK.out _ _ ⟨ρ, (by simp only [put]; rfl), fun _ _ => rfl, hW.pure (by omega) (by omega) (by omega) (by omega)⟩
                      · have e5 : u 5 = .pointer (some ⟨p, 0, none⟩) := hu 5 (all_of hp (by kernel_rfl))
                        have e6 : u 6 = .agg #[.slice A N'.nodes.length c, .slice Bq N'.pipes.length d] := hu 6 (all_of hp (by kernel_rfl))
                        refine wpOp_go (E := True) rfl rfl (fun K' hK => ?_)
                        go_simp
                        go_at_call 50
                        have n9 : L 9 = false := no_later hc hl (by kernel_rfl)
                        have n12 : L 12 = false := no_later hc n9 (by kernel_rfl)
                        refine (spec_l05DrawFlows p A Bq _ c _ d _ hW.sr (by omega)).mono ?_
                        rintro e' w5 ⟨Af, cf, fl, rfl, hM, hrf, hs5, hk5, hAf⟩
                        refine hK.out _ _ ⟨⟨ρ.b, ρ.r, ρ.c, .slice Af fl.length cf⟩, (by simp only [put, e5, e6]; rfl), fun j hj => by
                            have n9 : L 9 = false := no_later hc hl (by kernel_rfl)
                            have n12 : L 12 = false := no_later hc n9 (by kernel_rfl)
                            match j, hj with
                            | 0, _ => rfl
                            | 1, _ => rfl
                            | 2, _ => rfl
                            | 3, _ => rfl
                            | 4, _ => rfl
                            | 5, _ => rfl
                            | 6, _ => rfl
                            | 7, hj => rw [hl] at hj; cases hj
                            | 8, _ => rfl
                            | 9, hj => rw [n9] at hj; cases hj
                            | 10, _ => rfl
                            | 11, _ => rfl
                            | 12, hj => rw [n12] at hj; cases hj
                            | _ + 13, _ => rfl, hW.call (by omega) (by omega) (by omega) n12 hk5 hs5 hpw hM hrf (fun b off e => (hAf b off e).1)⟩
                      · refine wpOp_go (E := True) rfl rfl (fun K' hK => ?_)
                        go_simp
                        refine hK.out _ _ ⟨ρ, (by simp only [put]; rfl), fun _ _ => rfl, hW.pure (by omega) (by omega) (by omega) (by omega)⟩
                      · have e7 : u 7 = ρ.v := hu 7 (all_of hp (by kernel_rfl))
                        have e8 : u 8 = (.slice a4 l4.length m4) := hu 8 (all_of hp (by kernel_rfl))
                        obtain ⟨Af9, cf9, fl9, hv9, -⟩ := hW.vc (all_of (d := 7) hp (by kernel_rfl))
                        rw [hv9] at e7
                        refine wpOp_go (E := True) rfl rfl (fun K' hK => ?_)
                        go_simp
                        refine hK.out _ _ ⟨ρ, (by simp only [put, e7, e8, ← hv9]; rfl), fun _ _ => rfl, hW.pure (by omega) (by omega) (by omega) (by omega)⟩
                      · have e0 : u 0 = .agg #[.slice A N'.nodes.length c, .slice Bq N'.pipes.length d] := hu 0 (all_of hp (by kernel_rfl))
                        have hb0 := hW.s1 hl
                        have hyX := hb0.lt
                        have xx0 := hb0.cell 0 rfl
                        have xx1 := hb0.cell 1 rfl
                        have xf0 := hb0.frozen 0 rfl
                        have xf1 := hb0.frozen 1 rfl
                        clear hb0
                        refine wpOp_go (E := True) rfl rfl (fun K' hK => ?_)
                        go_simp
                        refine hK.out _ _ ⟨ρ, (by simp only [put, e0]; rfl), fun _ _ => rfl, hW.put1 (by omega) (by omega) (by omega) hpw (by omega) (((Keep.refl (· = w.heap.size) _).one _).one _) (bx2 (by simp; omega) (by simp [go_sem, xx0, xx1]) (by simp [go_sem, xf0]) (by simp [go_sem, xx0, xx1]) (by simp [go_sem, xf1]))⟩
                      · have e4 : u 4 = .agg #[(.slice (some ⟨ga, 0, none⟩) l1.length m1), (.slice (some ⟨gb, 0, none⟩) l2.length m2), (.slice (some ⟨gc, 0, none⟩) l3.length m3)] := hu 4 (all_of hp (by kernel_rfl))
                        have hb0 := hW.s2 hl
                        have hyX := hb0.lt
                        have xx0 := hb0.cell 0 rfl
                        have xx1 := hb0.cell 1 rfl
                        have xx2 := hb0.cell 2 rfl
                        have xf0 := hb0.frozen 0 rfl
                        have xf1 := hb0.frozen 1 rfl
                        have xf2 := hb0.frozen 2 rfl
                        clear hb0
                        refine wpOp_go (E := True) rfl rfl (fun K' hK => ?_)
                        go_simp
                        refine hK.out _ _ ⟨ρ, (by simp only [put, e4]; rfl), fun _ _ => rfl, hW.put2 (by omega) (by omega) (by omega) hpw (by omega) ((((Keep.refl (· = (w.heap.size + 1)) _).one _).one _).one _) (bx3 (by simp; omega) (by simp [go_sem, xx0, xx1, xx2]) (by simp [go_sem, xf0]) (by simp [go_sem, xx0, xx1, xx2]) (by simp [go_sem, xf1]) (by simp [go_sem, xx0, xx1, xx2]) (by simp [go_sem, xf2]))⟩
                      · have e9 : u 9 = .agg #[ρ.v, (.slice a4 l4.length m4)] := hu 9 (all_of hp (by kernel_rfl))
                        obtain ⟨Af9, cf9, fl9, hv9, -⟩ := hW.vc (all_of (d := 7) (hc 9 (all_of (d := 9) hp (by kernel_rfl))) (by kernel_rfl))
                        rw [hv9] at e9
                        have hb0 := hW.s3 hl
                        have hyX := hb0.lt
                        have xx0 := hb0.cell 0 rfl
                        have xx1 := hb0.cell 1 rfl
                        have xf0 := hb0.frozen 0 rfl
                        have xf1 := hb0.frozen 1 rfl
                        clear hb0
                        refine wpOp_go (E := True) rfl rfl (fun K' hK => ?_)
                        go_simp
                        refine hK.out _ _ ⟨ρ, (by simp only [put, e9]; rfl), fun _ _ => rfl, hW.put3 (by omega) (by omega) (by omega) hpw (by omega) (((Keep.refl (· = (w.heap.size + 2)) _).one _).one _) (by show Bx _ _ [ρ.v, _]; rw [hv9]; exact bx2 (by simp; omega) (by simp [go_sem, xx0, xx1]) (by simp [go_sem, xf0]) (by simp [go_sem, xx0, xx1]) (by simp [go_sem, xf1]))⟩
                    · intro L ρ u wx hall hu hW
                      have hb0 := hW.t1 (hall 10 (by show 10 < 13; omega))
                      have hb1 := hW.t2 (hall 11 (by show 11 < 13; omega))
                      have hb2 := hW.t3 (hall 12 (by show 12 < 13; omega))
                      obtain ⟨Af, cf, fl, hv, hM, hrf, hAf⟩ := hW.vc (hall 7 (by show 7 < 13; omega))
                      rw [hv] at hb2
                      have cw0_0 := hb0.cell 0 rfl
                      have cw0_1 := hb0.cell 1 rfl
                      have cw1_0 := hb1.cell 0 rfl
                      have cw1_1 := hb1.cell 1 rfl
                      have cw1_2 := hb1.cell 2 rfl
                      have cw2_0 := hb2.cell 0 rfl
                      have cw2_1 := hb2.cell 1 rfl
                      have hkp := hW.kp
                      have hsr := hW.sr
                      have hkz := hkp.size
                      clear hu hall hW hb0 hb1 hb2 hv
                      go_wp2
                      refine bodyPost_ret (by simp [results, Try.results25, go_sem, cw0_0, cw0_1, cw1_0, cw1_1, cw1_2, cw2_0, cw2_1]; try rfl) rfl ?_
                      have := dz_post (n1 := l1.length) (n2 := l2.length) (n3 := l3.length) (n4 := l4.length) (m1 := m1) (m2 := m2) (m3 := m3) (m4 := m4) (cf := cf) HZ.out rfl rfl rfl rfl hp hkp hsr hrf (by omega) (fun b off e => by have := hAf b off e; omega) (by have := HSN.out.n; omega)
                      simpa [netV] using this
end Go.Proofs.Ytijhadafmhbceaa
