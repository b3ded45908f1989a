/- Drawn networks, also such as are not valid. -/
import Derived.Test.YtbdacplndmnkhaaGreatDoorDx
namespace Go.Proofs.YtbdacplndmnkhaaGreatDoor
set_option linter.unusedVariables false
set_option linter.unusedSimpArgs false
open Go.RowKit
/-- a drawn network behind its call, for reading -/
def DrewA (w : World) (p : Nat) (e : Ending) (w' : World) : Prop :=
  ∃ (A Bq : Option Addr) (c d : Nat) (N : Net), e = .returned (netV A Bq N.nodes.length c N.pipes.length d) ∧ N.nodes.length ≤ c ∧ NetAt w' A Bq N ∧ N.nodes.length ≤ 7 ∧ N.pipes.length ≤ 10 ∧ Src w' p ∧ Keep (· = p) w w' ∧ (∀ b off, A = some ⟨b, off, none⟩ → w.heap.size ≤ b ∧ b < w'.heap.size) ∧ (∀ b off, Bq = some ⟨b, off, none⟩ → w.heap.size ≤ b ∧ b < w'.heap.size) ∧ Own w' (w.heap.size + 1) 98 3 (.slice A N.nodes.length c) N.nodes.length (N.nodes.flatMap Nd.cells) ∧ Own w' (w.heap.size + 1) 102 5 (.slice Bq N.pipes.length d) N.pipes.length (N.pipes.flatMap Pp.cells) ∧ Apart (.slice A N.nodes.length c) (.slice Bq N.pipes.length d)
/-- what holds of the drawn network while it is changed: in box X, its two slices -/
structure DA (w : World) (p X : Nat) (A Bq : Option Addr) (c d : Nat) (ns : List Nd) (ps : List Pp) (wr : World) : Prop where
  o1 : Own wr (w.heap.size + 1) 98 3 (.slice A ns.length c) ns.length (ns.flatMap Nd.cells)
  o2 : Own wr (w.heap.size + 1) 102 5 (.slice Bq ps.length d) ps.length (ps.flatMap Pp.cells)
  ap : Apart (.slice A ns.length c) (.slice Bq ps.length d)
  x1 : (Value.slice A ns.length c).ownBlock ≠ some X
  x2 : (Value.slice Bq ps.length d).ownBlock ≠ some X
  src : Src wr p
  kp : Keep (· = p) w wr
  b0 : Bx wr w.heap.size [.slice none 0 0, .slice none 0 0]
  bX : Bx wr X [.slice A ns.length c, .slice Bq ps.length d]
  sz : w.heap.size + 1 ≤ X
variable {w wr wr' : World} {p X : Nat} {A Bq : Option Addr} {c d : Nat} {ns : List Nd} {ps : List Pp}
theorem DA.keep (h : DA w p X A Bq c d ns ps wr) (hp : p < w.heap.size) (hk : Keep (· = p) wr wr') (hs : Src wr' p) : DA w p X A Bq c d ns ps wr' :=
  ⟨h.o1.keepp hk (by omega), h.o2.keepp hk (by omega), h.ap, h.x1, h.x2, hs, h.kp.trans hk, h.b0.keep hk (by omega), h.bX.keep hk (by have := h.sz; omega), h.sz⟩
theorem DA.below (h : DA w p X A Bq c d ns ps wr) (hb : Below wr.heap.size wr wr') : DA w p X A Bq c d ns ps wr' :=
  ⟨h.o1.below hb (Nat.le_refl _), h.o2.below hb (Nat.le_refl _), h.ap, h.x1, h.x2, h.src.below hb, h.kp.trans (Keep.of_below _ hb), h.b0.below hb h.b0.lt, h.bX.below hb h.bX.lt, h.sz⟩
theorem Far.bxx {w w' : World} {v v' : Value} {b : Nat} {cs : List Value} (h : Far w w' v v') (hb : Bx w b cs) (hv : v.ownBlock ≠ some b) : Bx w' b cs := by
  have e := h.grow.block b hb.1 (fun e => hv e.symm)
  refine ⟨?_, fun k u q => ⟨?_, ?_⟩⟩
  · rcases Nat.lt_or_ge b w'.heap.size with hlt | hge
    · exact hlt
    · rw [Array.getElem?_eq_none hge] at e
      have := hb.1
      simp [this] at e
  · exact (World.cell?_of_block (w := w) e).trans (hb.2 k u q).1
  · exact (World.frozen?_of_block (w := w) e).trans (hb.2 k u q).2
theorem Own.keepg {w w' : World} {base g s n : Nat} {e : TypeId} {v : Value} {xs : List Value} (h : Own w base e s v n xs) (hk : Keep (· = g) w w') (hg : v.ownBlock ≠ some g) : Own w' base e s v n xs :=
  World.ownsRow.kept (row := some g) h ⟨hk.os, hk.tape, hk.output, hk.size, fun k h1 h2 => hk.block k h1 (by rintro rfl; exact h2 rfl)⟩ (Or.inr hg)
theorem DA.arrN {g : Nat} (h : DA w p X (some ⟨g, 0, none⟩) Bq c d ns ps wr) (hk : 0 < ns.length) : Arr wr g (ns.length * 3) (ns.flatMap Nd.cells) := by
  obtain ⟨g', c', hv, _, _, ha⟩ := h.o1.arr hk
  injection hv with hv; injection hv with hv; injection hv with hv; subst hv; exact ha
theorem DA.arrP {g : Nat} (h : DA w p X A (some ⟨g, 0, none⟩) c d ns ps wr) (hk : 0 < ps.length) : Arr wr g (ps.length * 5) (ps.flatMap Pp.cells) := by
  obtain ⟨g', c', hv, _, _, ha⟩ := h.o2.arr hk
  injection hv with hv; injection hv with hv; injection hv with hv; subst hv; exact ha
theorem DA.setN {g : Nat} (hp : p < w.heap.size) (h : DA w p X (some ⟨g, 0, none⟩) Bq c d ns ps wr) {k o : Nat} {x x' : Nd} {u : Value} (hk : k < ns.length) (hx : ns[k]? = some x) (ho : o < 3) (hx' : x'.cells = x.cells.set o u) : DA w p X (some ⟨g, 0, none⟩) Bq c d (ns.set k x') ps (wr.setCell ⟨g, k * 3 + o, none⟩ u) := by
  have hg : w.heap.size + 1 ≤ g := by
    obtain ⟨g', c', hv, hg, _⟩ := h.o1.arr (by omega)
    injection hv with hv; injection hv with hv; injection hv with hv; omega
  have hgX : g ≠ X := fun e => h.x1 (by rw [e]; rfl)
  have hkp : Keep (· = g) wr (wr.setCell ⟨g, k * 3 + o, none⟩ u) := (Keep.refl _ _).one _
  have hb : Below (w.heap.size + 1) wr (wr.setCell ⟨g, k * 3 + o, none⟩ u) := ⟨hkp.os, hkp.tape, hkp.output, hkp.size, fun q hq => by
    rcases Nat.lt_or_ge q wr.heap.size with h1 | h1
    · exact hkp.block q h1 (by omega)
    · rw [Array.getElem?_eq_none h1, Array.getElem?_eq_none (by simpa [World.setCell] using h1)]⟩
  have hsz := h.sz
  have hl : (ns.set k x').length = ns.length := by simp
  refine ⟨?_, h.o2.keepg hkp (fun e => h.ap g rfl e), ?_, ?_, h.x2, h.src.high hb (by omega), ?_, h.b0.keep hkp (by omega), ?_, h.sz⟩
  · rw [hl]
    have := h.o1.set (k * 3 + o) (by rw [flat_len Nd.len]; omega) u
    rw [Nat.mul_comm k 3] at this ⊢
    rw [flat_set Nd.len ns k o x x' u hx ho hx'] at this
    exact this
  · rw [hl]; exact h.ap
  · rw [hl]; exact h.x1
  · exact ⟨hb.os.trans h.kp.os, hb.tape.trans h.kp.tape, hb.output.trans h.kp.output, Nat.le_trans h.kp.size hb.size, fun q h1 h2 => (hb.block q (by omega)).trans (h.kp.block q h1 h2)⟩
  · rw [hl]; exact h.bX.keep hkp (fun e => hgX e.symm)
theorem DA.setP {g : Nat} (hp : p < w.heap.size) (h : DA w p X A (some ⟨g, 0, none⟩) c d ns ps wr) {o : Nat} {x x' : Pp} {u : Value} (hk : 0 < ps.length) (hx : ps[0]? = some x) (ho : o < 5) (hx' : x'.cells = x.cells.set o u) : DA w p X A (some ⟨g, 0, none⟩) c d ns (ps.set 0 x') (wr.setCell ⟨g, o, none⟩ u) := by
  have hg : w.heap.size + 1 ≤ g := by
    obtain ⟨g', c', hv, hg, _⟩ := h.o2.arr (by omega)
    injection hv with hv; injection hv with hv; injection hv with hv; omega
  have hgX : g ≠ X := fun e => h.x2 (by rw [e]; rfl)
  have hkp : Keep (· = g) wr (wr.setCell ⟨g, o, none⟩ u) := (Keep.refl _ _).one _
  have hb : Below (w.heap.size + 1) wr (wr.setCell ⟨g, o, none⟩ u) := ⟨hkp.os, hkp.tape, hkp.output, hkp.size, fun q hq => by
    rcases Nat.lt_or_ge q wr.heap.size with h1 | h1
    · exact hkp.block q h1 (by omega)
    · rw [Array.getElem?_eq_none h1, Array.getElem?_eq_none (by simpa [World.setCell] using h1)]⟩
  have hsz := h.sz
  have hl : (ps.set 0 x').length = ps.length := by simp
  refine ⟨h.o1.keepg hkp (fun e => h.ap g e rfl), ?_, ?_, h.x1, ?_, h.src.high hb (by omega), ?_, h.b0.keep hkp (by omega), ?_, h.sz⟩
  · rw [hl]
    have := h.o2.set o (by rw [flat_len Pp.len]; omega) u
    have e := flat_set Pp.len ps 0 o x x' u hx ho hx'
    rw [Nat.mul_zero, Nat.zero_add] at e
    rw [e] at this
    exact this
  · rw [hl]; exact h.ap
  · rw [hl]; exact h.x2
  · exact ⟨hb.os.trans h.kp.os, hb.tape.trans h.kp.tape, hb.output.trans h.kp.output, Nat.le_trans h.kp.size hb.size, fun q h1 h2 => (hb.block q (by omega)).trans (h.kp.block q h1 h2)⟩
  · rw [hl]; exact h.bX.keep hkp (fun e => hgX e.symm)
theorem nd_at {ns : List Nd} {k : Nat} {x : Nd} (hx : ns[k]? = some x) (o : Nat) {v : Value} (ho : x.cells[o]? = some v) : (ns.flatMap Nd.cells)[k * 3 + o]? = some v := by
  induction ns generalizing k with
  | nil => simp at hx
  | cons y l ih =>
    cases k with
    | zero =>
      simp at hx; subst hx
      rw [List.flatMap_cons, List.getElem?_append_left (by have := (List.getElem?_eq_some_iff.1 ho).1; omega), Nat.zero_mul, Nat.zero_add]; exact ho
    | succ k =>
      rw [List.flatMap_cons, List.getElem?_append_right (by rw [Nd.len]; omega), Nd.len, show (k + 1) * 3 + o - 3 = k * 3 + o by omega]
      exact ih (by simpa using hx)
theorem nmK {ns : List Nd} {k : Nat} {x x' : Nd} (h : ∀ y ∈ ns, y.sm) (hx : ns[k]? = some x) (he : x'.name = x.name) : ∀ y ∈ ns.set k x', y.name.size ≤ 16 := fun y hy => by
  rcases List.mem_or_eq_of_mem_set hy with h1 | h1
  · exact (h y h1).1
  · subst h1; rw [he]; exact (h x (List.mem_of_getElem? hx)).1
theorem DA.nil (hp : p < w.heap.size) (h : DA w p X A Bq c d ns ps wr) : DA w p X none Bq 0 d [] ps (wr.setCell ⟨X, 0, none⟩ (.slice none 0 0)) := by
  have hkp : Keep (· = X) wr (wr.setCell ⟨X, 0, none⟩ (.slice none 0 0)) := (Keep.refl _ _).one _
  have hsz := h.sz
  have hX := h.bX.lt
  have c1 := h.bX.cell 1 rfl
  have c0 := h.bX.cell 0 rfl
  have f0 := h.bX.frozen 0 rfl
  have f1 := h.bX.frozen 1 rfl
  have hb : Below (w.heap.size + 1) wr (wr.setCell ⟨X, 0, none⟩ (.slice none 0 0)) := by (repeat' (first | (with_reducible exact Below.refl _ _) | (with_reducible assumption) | (with_reducible refine Below.alloc ?_ ?_ _) | (with_reducible refine Below.drew ?_) | (with_reducible refine Below.drewN' ?_ _) | (with_reducible refine Below.setCell ?_ ?_ _) | (refine Below.via ?_ (by with_reducible assumption) ?_) | (with_reducible refine Below.via ?_ (Wd.h _) ?_) | go_size))
  refine ⟨Own.nil _ _ _ _, h.o2.keepg hkp h.x2, Apart.nil_l _, (fun e => by cases e), h.x2, h.src.high hb (by omega), ?_, h.b0.keep hkp (by omega), bx2 (by simp; omega) (by simp [go_sem, c0]) (by simp [go_sem, f0]) (by simp [go_sem, c1]) (by simp [go_sem, f1]), h.sz⟩
  exact ⟨hb.os.trans h.kp.os, hb.tape.trans h.kp.tape, hb.output.trans h.kp.output, Nat.le_trans h.kp.size hb.size, fun q h1 h2 => (hb.block q (by omega)).trans (h.kp.block q h1 h2)⟩
theorem DA.pipe {B' : Option Addr} {d' : Nat} {y : Pp} (hp : p < w.heap.size) (h : DA w p X A Bq c d ns ps wr) (ho : Own wr' (w.heap.size + 1) 102 5 (.slice B' (ps.length + 1) d') (ps.length + 1) (ps.flatMap Pp.cells ++ y.cells)) (hb : Below (w.heap.size + 1) wr wr') (hf : Far wr wr' (.slice Bq ps.length d) (.slice B' (ps.length + 1) d')) : DA w p X A B' c d' ns (ps ++ [y]) (wr'.setCell ⟨X, 1, none⟩ (.slice B' (ps.length + 1) d')) := by
  have hkp : Keep (· = X) wr' (wr'.setCell ⟨X, 1, none⟩ (.slice B' (ps.length + 1) d')) := (Keep.refl _ _).one _
  have hsz := h.sz
  have hbx := hf.bxx h.bX h.x2
  have hX := hbx.lt
  have c1 := hbx.cell 1 rfl
  have c0 := hbx.cell 0 rfl
  have f0 := hbx.frozen 0 rfl
  have f1 := hbx.frozen 1 rfl
  have hXr := h.bX.lt
  have hb2 : Below (w.heap.size + 1) wr (wr'.setCell ⟨X, 1, none⟩ (.slice B' (ps.length + 1) d')) := hb.setCell (by simpa using hsz) _
  have hnx : (Value.slice B' (ps.length + 1) d').ownBlock ≠ some X := fun e => by
    rcases hf.lie X e with h1 | h1
    · exact h.x2 h1
    · omega
  have hl : (ps ++ [y]).length = ps.length + 1 := by simp
  refine ⟨(hf.own h.o1 h.ap.symm).keepg hkp h.x1, ?_, ?_, h.x1, by rw [hl]; exact hnx, h.src.high hb2 (by omega), ?_, (h.b0.below hb (by omega)).keep hkp (by omega), ?_, h.sz⟩
  · rw [hl]
    have := ho.keepg hkp hnx
    simpa using this
  · rw [hl]; exact (hf.apart h.o1 h.ap.symm).symm
  · exact ⟨hb2.os.trans h.kp.os, hb2.tape.trans h.kp.tape, hb2.output.trans h.kp.output, Nat.le_trans h.kp.size hb2.size, fun q h1 h2 => (hb2.block q (by omega)).trans (h.kp.block q h1 h2)⟩
  · rw [hl]; exact bx2 (by simp; omega) (by simp [go_sem, c0]) (by simp [go_sem, f0]) (by simp [go_sem, c1]) (by simp [go_sem, f1])
def pickS (l : List ByteArray) (k : Nat) : ByteArray := l.getD k ⟨#[]⟩
theorem pickLS : ∀ k : Nat, k < 5 → ([.string ⟨#[]⟩, .string ⟨#[110, 48]⟩, .string ⟨#[110, 105, 110, 101, 99, 104, 97, 114, 115]⟩, .string ⟨#[101, 105, 103, 104, 116, 99, 104, 97]⟩, .string ⟨#[78]⟩] : List Value)[k]? = some (.string (pickS [⟨#[]⟩, ⟨#[110, 48]⟩, ⟨#[110, 105, 110, 101, 99, 104, 97, 114, 115]⟩, ⟨#[101, 105, 103, 104, 116, 99, 104, 97]⟩, ⟨#[78]⟩] k))
  | 0, _ => rfl
  | 1, _ => rfl
  | 2, _ => rfl
  | 3, _ => rfl
  | 4, _ => rfl
  | k + 5, h => by omega
theorem nmS {ns : List Nd} {k : Nat} {x : Nd} (h : ∀ y ∈ ns, y.sm) (hx : ns[k]? = some x) (r : Nat) : ∀ y ∈ ns.set k ⟨pickS [⟨#[]⟩, ⟨#[110, 48]⟩, ⟨#[110, 105, 110, 101, 99, 104, 97, 114, 115]⟩, ⟨#[101, 105, 103, 104, 116, 99, 104, 97]⟩, ⟨#[78]⟩] r, x.lo, x.hi⟩, y.name.size ≤ 16 := fun y hy => by
  rcases List.mem_or_eq_of_mem_set hy with h1 | h1
  · exact (h y h1).1
  · subst h1
    show (pickS [⟨#[]⟩, ⟨#[110, 48]⟩, ⟨#[110, 105, 110, 101, 99, 104, 97, 114, 115]⟩, ⟨#[101, 105, 103, 104, 116, 99, 104, 97]⟩, ⟨#[78]⟩] r).size ≤ 16
    match r with
    | 0 => decide
    | 1 => decide
    | 2 => decide
    | 3 => decide
    | 4 => decide
    | r + 5 => show (ByteArray.mk #[]).size ≤ 16; decide
set_option maxRecDepth 100000 in
theorem l02a_post {w wr : World} {p X : Nat} {A Bq : Option Addr} {c d : Nat} {ns : List Nd} {ps : List Pp} (hp : p < w.heap.size) (h : DA w p X A Bq c d ns ps wr) (hn : ns.length ≤ 7) (hm : ps.length ≤ 10) (hnm : ∀ y ∈ ns, y.name.size ≤ 16) :
    DrewA w p (.returned (netV A Bq ns.length c ps.length d)) ((wr.setCell ⟨w.heap.size, 0, none⟩ (.slice A ns.length c)).setCell ⟨w.heap.size, 1, none⟩ (.slice Bq ps.length d)) := by
  have HD := Lib.hid h
  have HNM := Lib.hid hnm
  have hb0 := h.b0.lt
  have hsz := h.sz
  obtain ⟨A', c', h1, hc, _, _⟩ := h.o1.val
  injection h1 with _ _ h1'
  subst h1'
  clear h hnm
  refine ⟨A, Bq, c, d, ⟨ns, ps⟩, rfl, hc, ⟨?_, ?_, by dsimp only; omega, by dsimp only; omega, fun y hy => by have := HNM.out y hy; omega⟩, hn, hm, HD.out.src.high (B := p + 1) (by (repeat' (first | (with_reducible exact Below.refl _ _) | (with_reducible assumption) | (with_reducible refine Below.alloc ?_ ?_ _) | (with_reducible refine Below.drew ?_) | (with_reducible refine Below.drewN' ?_ _) | (with_reducible refine Below.setCell ?_ ?_ _) | (refine Below.via ?_ (by with_reducible assumption) ?_) | (with_reducible refine Below.via ?_ (Wd.h _) ?_) | go_size))) (by omega), by have h1 := HD.out.kp; (repeat' (first | (with_reducible exact Keep.refl _ _) | (with_reducible assumption) | (with_reducible refine Keep.alloc ?_ _) | (with_reducible refine Keep.drew ?_) | (with_reducible refine Keep.drewN ?_ _) | (refine Keep.trans ?_ (by with_reducible assumption)) | (refine Keep.via ?_ (by with_reducible assumption)) | (with_reducible refine Keep.new ?_ ?_ _) | go_size)), fun b off e => ?_, fun b off e => ?_, (HD.out.o1.set_below (a := ⟨w.heap.size, 0, none⟩) (by simp) (.slice A ns.length c)).set_below (a := ⟨w.heap.size, 1, none⟩) (by simp) (.slice Bq ps.length d), (HD.out.o2.set_below (a := ⟨w.heap.size, 0, none⟩) (by simp) (.slice A ns.length c)).set_below (a := ⟨w.heap.size, 1, none⟩) (by simp) (.slice Bq ps.length d), HD.out.ap⟩
  · obtain ⟨A2, c2, h3, _, h4, _⟩ := (((HD.out.o1.set_below (a := ⟨w.heap.size, 0, none⟩) (by simp) (.slice A ns.length c)).set_below (a := ⟨w.heap.size, 1, none⟩) (by simp) (.slice Bq ps.length d))).val
    injection h3 with h3; subst h3; exact h4
  · obtain ⟨A2, c2, h3, _, h4, _⟩ := (((HD.out.o2.set_below (a := ⟨w.heap.size, 0, none⟩) (by simp) (.slice A ns.length c)).set_below (a := ⟨w.heap.size, 1, none⟩) (by simp) (.slice Bq ps.length d))).val
    injection h3 with h3; subst h3; exact h4
  · have := World.ownsRow.lt HD.out.o1 b (by rw [e]; rfl)
    exact ⟨by omega, by simp; omega⟩
  · have := World.ownsRow.lt HD.out.o2 b (by rw [e]; rfl)
    exact ⟨by omega, by simp; omega⟩
set_option maxRecDepth 100000 in
set_option maxHeartbeats 8000000 in
theorem l02a_tail (w wr : World) (p X : Nat) {A Bq : Option Addr} {c d : Nat} {ns : List Nd} {ps : List Pp} (hp : p < w.heap.size) (h : DA w p X A Bq c d ns ps wr) (hn : ns.length ≤ 7) (hm : ps.length ≤ 10) (hnm : ∀ y ∈ ns, y.name.size ≤ 16) (v0 v1 v4 v5 v6 v7 v8 v9 v10 v11 v12 v13 v14 v15 v16 v17 v18 v19 v20 v21 v22 v23 v24 v25 v26 v27 v28 v29 v30 v31 v32 v33 v34 v35 v36 v37 v38 v39 v40 v41 v42 v43 v44 v45 v46 v47 v48 v49 v50 v51 v52 v53 v54 v55 v56 v57 v58 v59 v60 v61 v62 v63 v64 v65 v66 v67 v68 v69 v70 v71 v72 v73 v74 v75 v76 v77 v78 v79 v80 v81 v82 v83 v84 v85 v86 v87 v88 v89 v90 v91 v92 v93 v94 v95 v96 v97 v98 v99 v100 v101 v102 v103 v104 v105 v106 : Value) :
    Code.wp Tryz.prog ((Code.region 20 #[{ dst := some 106, op := Op.load 34 (Operand.tmp 3), type := 34, pos := "l02_network.go:251", after := #[], guard := none }, { dst := none, op := Op.store 34 (Operand.tmp 2) (Operand.tmp 106), type := 0, pos := "l02_network.go:251", after := #[{ on := 0, ground := Ground.data }, { on := 0, ground := Ground.phase }], guard := none }] false).seq Code.ret) (bodyPost Tryz.prog Tryz.f56 (DrewA w p)) ⟨#[v0, v1, .pointer (some ⟨w.heap.size, 0, none⟩), .pointer (some ⟨X, 0, none⟩), v4, v5, v6, v7, v8, v9, v10, v11, v12, v13, v14, v15, v16, v17, v18, v19, v20, v21, v22, v23, v24, v25, v26, v27, v28, v29, v30, v31, v32, v33, v34, v35, v36, v37, v38, v39, v40, v41, v42, v43, v44, v45, v46, v47, v48, v49, v50, v51, v52, v53, v54, v55, v56, v57, v58, v59, v60, v61, v62, v63, v64, v65, v66, v67, v68, v69, v70, v71, v72, v73, v74, v75, v76, v77, v78, v79, v80, v81, v82, v83, v84, v85, v86, v87, v88, v89, v90, v91, v92, v93, v94, v95, v96, v97, v98, v99, v100, v101, v102, v103, v104, v105, v106], []⟩ wr := by
  have HD := Lib.hid h
  have HNM := Lib.hid hnm
  have hb0 := h.b0
  have hbX := h.bX
  have hsz := h.sz
  clear h hnm
  have hy7 := hbX.lt; have cw7_0 := hbX.cell 0 rfl; have fw7_0 := hbX.frozen 0 rfl; have cw7_1 := hbX.cell 1 rfl; have fw7_1 := hbX.frozen 1 rfl
  have hy0 := hb0.lt; have cw0_0 := hb0.cell 0 rfl; have fw0_0 := hb0.frozen 0 rfl; have cw0_1 := hb0.cell 1 rfl; have fw0_1 := hb0.frozen 1 rfl
  clear hb0 hbX
  go_wp2
  refine bodyPost_ret (by simp [results, Tryz.results56, go_sem, cw0_0, cw0_1]; try rfl) rfl ?_
  exact l02a_post hp HD.out hn hm HNM.out
set_option maxRecDepth 100000 in
set_option maxHeartbeats 8000000 in
theorem spec_l02DrawAny (p : Nat) (w : World) (h : Src w p) :
    Calls Tryz.prog 56 #[.pointer (some ⟨p, 0, none⟩)] w (DrewA w p) := by
  have hp := h.lt
  have HS := Lib.hid h
  clear h
  go_enter Tryz.func56, Tryz.ntmps56
  go_wp2_with fail
  refine (spec_l02Draw p _ (HS.out.below (by (repeat' (first | (with_reducible exact Below.refl _ _) | (with_reducible assumption) | (with_reducible refine Below.alloc ?_ ?_ _) | (with_reducible refine Below.drew ?_) | (with_reducible refine Below.drewN' ?_ _) | (with_reducible refine Below.setCell ?_ ?_ _) | (refine Below.via ?_ (by with_reducible assumption) ?_) | (with_reducible refine Below.via ?_ (Wd.h _) ?_) | go_size))))).mono ?_
  rintro e w1 ⟨A, Bq, c, d, ⟨ns, ps⟩, rfl, ho1, ho2, hap, hs1, hs2, hn1, hn7, hq9, hsr, hk1⟩
  dsimp only at ho1 ho2 hap hs1 hs2 hn1 hn7 hq9
  have HSM := Lib.hid hs1
  have HSP := Lib.hid hs2
  have ho1 : Own w1 (w.heap.size + 1) 98 3 (.slice A ns.length c) ns.length (ns.flatMap Nd.cells) := by simpa using ho1
  have ho2 : Own w1 (w.heap.size + 1) 102 5 (.slice Bq ps.length d) ps.length (ps.flatMap Pp.cells) := by simpa using ho2
  have HO1 := Lib.hid ho1
  have HO2 := Lib.hid ho2
  have HAP := Lib.hid hap
  have HS1 := Lib.hid hsr
  have HK1 := Lib.hid (show Keep (· = p) w w1 by (repeat' (first | (with_reducible exact Keep.refl _ _) | (with_reducible assumption) | (with_reducible refine Keep.alloc ?_ _) | (with_reducible refine Keep.drew ?_) | (with_reducible refine Keep.drewN ?_ _) | (refine Keep.trans ?_ (by with_reducible assumption)) | (refine Keep.via ?_ (by with_reducible assumption)) | (with_reducible refine Keep.new ?_ ?_ _) | go_size)))
  (have hz1 := hk1.size; (try simp at hz1); have Ncw0_0 := hk1.cell (w.heap.size) (0) (by first | omega | (simp; done) | (simp; omega)) (by intro hq; (try simp only at hq); omega); have Nfw0_0 := hk1.frozen (w.heap.size) (0) (by first | omega | (simp; done) | (simp; omega)) (by intro hq; (try simp only at hq); omega); have Nhy0 : w.heap.size < w1.heap.size := (by omega); have Ncw0_1 := hk1.cell (w.heap.size) (1) (by first | omega | (simp; done) | (simp; omega)) (by intro hq; (try simp only at hq); omega); have Nfw0_1 := hk1.frozen (w.heap.size) (1) (by first | omega | (simp; done) | (simp; omega)) (by intro hq; (try simp only at hq); omega); simp [go_sem] at Ncw0_0 Nfw0_0 Ncw0_1 Nfw0_1; have cw0_0 := Ncw0_0; have fw0_0 := Nfw0_0; have cw0_1 := Ncw0_1; have fw0_1 := Nfw0_1; have hy0 := Nhy0; clear Ncw0_0 Nfw0_0 Ncw0_1 Nfw0_1 Nhy0)
  have HB0 := Lib.hid (show Bx w1 w.heap.size [.slice none 0 0, .slice none 0 0] from (bx2 (by first | exact hy0 | go_size) (by first | (with_reducible exact cw0_0) | go_cell_look | (simp [go_sem, hy0, cw0_0, fw0_0, cw0_1, fw0_1]; done) | (simp [go_sem]; done)) (by first | (with_reducible exact fw0_0) | (simp only [World.frozen?_setCell, fw0_0]; done) | (simp [go_sem, hy0, cw0_0, fw0_0, cw0_1, fw0_1]; done) | (simp [go_sem]; done)) (by first | (with_reducible exact cw0_1) | go_cell_look | (simp [go_sem, hy0, cw0_0, fw0_0, cw0_1, fw0_1]; done) | (simp [go_sem]; done)) (by first | (with_reducible exact fw0_1) | (simp only [World.frozen?_setCell, fw0_1]; done) | (simp [go_sem, hy0, cw0_0, fw0_0, cw0_1, fw0_1]; done) | (simp [go_sem]; done))))
  clear hs1 hs2 hsr hk1 ho1 ho2 hap hy0 cw0_0 fw0_0 cw0_1 fw0_1
  go_wp2_with fail
  have hxA : (Value.slice A ns.length c).ownBlock ≠ some w1.heap.size := HO1.out.ne (Or.inr (Nat.le_refl _))
  have hxB : (Value.slice Bq ps.length d).ownBlock ≠ some w1.heap.size := HO2.out.ne (Or.inr (Nat.le_refl _))
  have hA1 : ∀ W, W = w1.alloc (.cells #[.slice A ns.length c, .slice Bq ps.length d] 34) → DA w p w1.heap.size A Bq c d ns ps W := by
    rintro W rfl
    exact ⟨HO1.out.alloc _, HO2.out.alloc _, HAP.out, hxA, hxB, HS1.out.below (by (repeat' (first | (with_reducible exact Below.refl _ _) | (with_reducible assumption) | (with_reducible refine Below.alloc ?_ ?_ _) | (with_reducible refine Below.drew ?_) | (with_reducible refine Below.drewN' ?_ _) | (with_reducible refine Below.setCell ?_ ?_ _) | (refine Below.via ?_ (by with_reducible assumption) ?_) | (with_reducible refine Below.via ?_ (Wd.h _) ?_) | go_size))), HK1.out.alloc _, HB0.out.below (show Below w1.heap.size w1 _ by (repeat' (first | (with_reducible exact Below.refl _ _) | (with_reducible assumption) | (with_reducible refine Below.alloc ?_ ?_ _) | (with_reducible refine Below.drew ?_) | (with_reducible refine Below.drewN' ?_ _) | (with_reducible refine Below.setCell ?_ ?_ _) | (refine Below.via ?_ (by with_reducible assumption) ?_) | (with_reducible refine Below.via ?_ (Wd.h _) ?_) | go_size))) HB0.out.lt, bx2 (by simp) (by simp) (by simp) (by simp) (by simp), by omega⟩
  have HA1 := Lib.hid (hA1 _ rfl)
  clear hA1
  refine (spec_l01Next p _ _ HA1.out.src (by omega)).mono ?_
  rintro e w2 ⟨r2, rfl, ra2, rz2, rb2, hs2, hk2⟩
  have HA2 := Lib.hid (HA1.out.keep hp hk2 hs2)
  obtain ⟨k, rfl⟩ := Int.eq_ofNat_of_zero_le ra2
  have hk : k < ns.length := by by_cases h1 : (ns.length : Int) ≤ 1; (have := rz2 h1; omega); (have := rb2 (by omega); omega)
  clear hs2 hk2 rz2 rb2 HA1 HO1 HO2 HAP HS1 HK1 HB0
  go_wp2_with fail
  refine (spec_l01Next p _ _ HA2.out.src (by omega)).mono ?_
  rintro e w3 ⟨z, rfl, za, _, zb, hs3, hk3⟩
  have HA3 := Lib.hid (HA2.out.keep hp hk3 hs3)
  have zc := zb (by omega)
  have hp3 : p < w3.heap.size := HA3.out.src.lt
  clear hs3 hk3 zb HA2
  obtain ⟨x, hx⟩ := get_some hk
  obtain ⟨g, c', hv, hg, hnc, _⟩ := HA3.out.o1.arr (by omega)
  injection hv with hv1 hv2 hv3
  subst hv1 hv3
  by_cases e0 : z = 0
  · subst e0
    go_wp2_with fail
    have HNM := Lib.hid (nmS (k := k) HSM.out hx)
    refine wp_region_tab (R := Nat × Int) (fun u => ⟨#[.pointer (some ⟨p, 0, none⟩), undef, .pointer (some ⟨w.heap.size, 0, none⟩), .pointer (some ⟨w1.heap.size, 0, none⟩), .int .i64 (k), .pointer (some ⟨p, 0, none⟩), netV (some ⟨g, 0, none⟩) Bq ns.length c ps.length d, .pointer (some ⟨p, 0, none⟩), .pointer (some ⟨w1.heap.size, 0, none⟩), .slice (some ⟨g, 0, none⟩) ns.length c, .int .i64 (ns.length), .int .i64 (k), .pointer (some ⟨p, 0, none⟩), .int .i64 (0), .bool true, .bool true, u 0, u 1, u 2, u 3, u 4, u 5, u 6, u 7, u 8, u 9, undef, undef, undef, undef, undef, undef, undef, undef, undef, undef, undef, undef, undef, undef, undef, undef, undef, undef, undef, undef, undef, undef, undef, undef, undef, undef, undef, undef, undef, undef, undef, undef, undef, undef, undef, undef, undef, undef, undef, undef, undef, undef, undef, undef, undef, undef, undef, undef, undef, undef, undef, undef, undef, undef, undef, undef, undef, undef, undef, undef, undef, undef, undef, undef, undef, undef, undef, undef, undef, undef, undef, undef, undef, undef, undef, undef, undef, undef, undef, undef, undef], []⟩) (fun ρ q => ([.pointer (some ⟨w1.heap.size, 0, none⟩), .slice (some ⟨g, 0, none⟩) ns.length c, .int .i64 (k), .slice (some ⟨ρ.1, 0, none⟩) 5 5, .pointer (some ⟨p, 0, none⟩), .int .i64 (ρ.2), .pointer (some ⟨ρ.1, ρ.2.toNat, none⟩), .string (pickS [⟨#[]⟩, ⟨#[110, 48]⟩, ⟨#[110, 105, 110, 101, 99, 104, 97, 114, 115]⟩, ⟨#[101, 105, 103, 104, 116, 99, 104, 97]⟩, ⟨#[78]⟩] ρ.2.toNat), .pointer (some ⟨g, k * 3, none⟩), .pointer (some ⟨g, k * 3, none⟩), undef] : List Value).getD q undef) (WT 3 5 10 p g 5 (fun W => DA w p w1.heap.size (some ⟨g, 0, none⟩) Bq c d ns ps W) (fun r W => DA w p w1.heap.size (some ⟨g, 0, none⟩) Bq c d (ns.set k ⟨pickS [⟨#[]⟩, ⟨#[110, 48]⟩, ⟨#[110, 105, 110, 101, 99, 104, 97, 114, 115]⟩, ⟨#[101, 105, 103, 104, 116, 99, 104, 97]⟩, ⟨#[78]⟩] r.toNat, x.lo, x.hi⟩) ps W) [.string ⟨#[]⟩, .string ⟨#[110, 48]⟩, .string ⟨#[110, 105, 110, 101, 99, 104, 97, 114, 115]⟩, .string ⟨#[101, 105, 103, 104, 116, 99, 104, 97]⟩, .string ⟨#[78]⟩] w3) (by kernel_rfl) (by kernel_rfl) (fun _ => undef) rfl (0, 0) (WT.start (Keep.of_below _ (Below.drew (Below.refl _ _))) (HA3.out.below (Below.drew (Below.refl _ _)))) ?_ ?_
    · intro ii hii L ρ u wx hl hp' hc hu hW
      have hii : ii < 11 := hii
      have hii : ii = 0 ∨ ii = 1 ∨ ii = 2 ∨ ii = 3 ∨ ii = 4 ∨ ii = 5 ∨ ii = 6 ∨ ii = 7 ∨ ii = 8 ∨ ii = 9 ∨ ii = 10 := by omega
      rcases hii with rfl | rfl | rfl | rfl | rfl | rfl | rfl | rfl | rfl | rfl | rfl
      · refine wpOp_go (E := True) rfl rfl (fun K' hK => ?_)
        go_simp
        refine hK.out _ _ ⟨ρ, (by simp only [put]; rfl), fun _ _ => rfl, hW.pure (by omega) (by omega) (by omega)⟩
      · have hks : L 10 = false := no_later hc (no_later hc (no_later hc hl (by kernel_rfl) : L 8 = false) (by kernel_rfl) : L 9 = false) (by kernel_rfl)
        have e0 : u 0 = .pointer (some ⟨w1.heap.size, 0, none⟩) := hu 0 (all_of hp' (by kernel_rfl))
        have hd := hW.t0 hks
        have xx0 := hd.bX.cell 0 rfl
        refine wpOp_go (E := True) rfl rfl (fun K' hK => ?_)
        go_simp
        refine hK.out _ _ ⟨ρ, (by simp only [put, e0]; rfl), fun _ _ => rfl, hW.pure (by omega) (by omega) (by omega)⟩
      · refine wpOp_go (E := True) rfl rfl (fun K' hK => ?_)
        go_simp
        refine hK.out _ _ ⟨ρ, (by simp only [put]; rfl), fun _ _ => rfl, hW.pure (by omega) (by omega) (by omega)⟩
      · have hks : L 10 = false := no_later hc (no_later hc (no_later hc hl (by kernel_rfl) : L 6 = false) (by kernel_rfl) : L 7 = false) (by kernel_rfl)
        refine wpOp_go (E := True) rfl rfl (fun K' hK => ?_)
        go_simp
        have hba : Below wx.heap.size wx (wx.alloc (.cells #[.string ⟨#[]⟩, .string ⟨#[110, 48]⟩, .string ⟨#[110, 105, 110, 101, 99, 104, 97, 114, 115]⟩, .string ⟨#[101, 105, 103, 104, 116, 99, 104, 97]⟩, .string ⟨#[78]⟩] 9)) := by (repeat' (first | (with_reducible exact Below.refl _ _) | (with_reducible assumption) | (with_reducible refine Below.alloc ?_ ?_ _) | (with_reducible refine Below.drew ?_) | (with_reducible refine Below.drewN' ?_ _) | (with_reducible refine Below.setCell ?_ ?_ _) | (refine Below.via ?_ (by with_reducible assumption) ?_) | (with_reducible refine Below.via ?_ (Wd.h _) ?_) | go_size))
        refine hK.out _ _ ⟨(wx.heap.size, ρ.2), (by simp only [put]; rfl), fun q hj => by
              have n6 : L 6 = false := no_later hc hl (by kernel_rfl)
              have n7 : L 7 = false := no_later hc n6 (by kernel_rfl)
              have n10 : L 10 = false := no_later hc n7 (by kernel_rfl)
              match q, hj with
              | 0, _ => rfl
              | 1, _ => rfl
              | 2, _ => rfl
              | 3, hj => rw [hl] at hj; cases hj
              | 4, _ => rfl
              | 5, _ => rfl
              | 6, hj => rw [n6] at hj; cases hj
              | 7, hj => rw [n7] at hj; cases hj
              | 8, _ => rfl
              | 9, _ => rfl
              | 10, hj => rw [n10] at hj; cases hj
              | _ + 11, _ => rfl, hW.alloc (by omega) (by omega) hks hba ((hW.t0 hks).below hba) (bx5 (by simp) (by simp) (by simp) (by simp) (by simp) (by simp) (by simp) (by simp) (by simp) (by simp) (by simp))⟩
      · refine wpOp_go (E := True) rfl rfl (fun K' hK => ?_)
        go_simp
        refine hK.out _ _ ⟨ρ, (by simp only [put]; rfl), fun _ _ => rfl, hW.pure (by omega) (by omega) (by omega)⟩
      · have hks : L 10 = false := no_later hc hl (by kernel_rfl)
        have e4 : u 4 = .pointer (some ⟨p, 0, none⟩) := hu 4 (all_of hp' (by kernel_rfl))
        refine wpOp_go (E := True) rfl rfl (fun K' hK => ?_)
        go_simp
        go_at_call 23
        refine (spec_l01Next _ _ _ (hW.t0 hks).src (by omega)).mono ?_
        rintro e' w5 ⟨r, rfl, ra, _, rb, hs5, hk5⟩
        have rc := rb (by omega)
        refine hK.out _ _ ⟨(ρ.1, r), (by simp only [put, e4]; rfl), fun q hj => by
              have n6 : L 6 = false := no_later hc hl (by kernel_rfl)
              have n7 : L 7 = false := no_later hc n6 (by kernel_rfl)
              have n10 : L 10 = false := no_later hc n7 (by kernel_rfl)
              match q, hj with
              | 0, _ => rfl
              | 1, _ => rfl
              | 2, _ => rfl
              | 3, _ => rfl
              | 4, _ => rfl
              | 5, hj => rw [hl] at hj; cases hj
              | 6, hj => rw [n6] at hj; cases hj
              | 7, hj => rw [n7] at hj; cases hj
              | 8, _ => rfl
              | 9, _ => rfl
              | 10, hj => rw [n10] at hj; cases hj
              | _ + 11, _ => rfl, hW.call (by omega) (by omega) (by omega) hks hk5 ((hW.t0 hks).keep hp hk5 hs5) ra rc⟩
      · have e3 : u 3 = .slice (some ⟨ρ.1, 0, none⟩) 5 5 := hu 3 (all_of hp' (by kernel_rfl))
        have e5 : u 5 = .int .i64 (ρ.2) := hu 5 (all_of hp' (by kernel_rfl))
        obtain ⟨ra, rb⟩ := hW.rr (all_of hp' (by kernel_rfl))
        have rn : ρ.2.toNat < 5 := by omega
        refine wpOp_go (E := True) rfl rfl (fun K' hK => ?_)
        go_simp
        refine hK.out _ _ ⟨ρ, (by simp only [put, e3, e5]; rfl), fun _ _ => rfl, hW.pure (by omega) (by omega) (by omega)⟩
      · have e6 : u 6 = .pointer (some ⟨ρ.1, ρ.2.toNat, none⟩) := hu 6 (all_of hp' (by kernel_rfl))
        obtain ⟨ra, rb⟩ := hW.rr (all_of (hc 6 (all_of hp' (by kernel_rfl))) (by kernel_rfl))
        have rn : ρ.2.toNat < 5 := by omega
        have hks : L 10 = false := no_later hc hl (by kernel_rfl)
        obtain ⟨hg', hga⟩ := hW.ar hks (all_of (hc 6 (all_of hp' (by kernel_rfl))) (by kernel_rfl))
        have hgx := hga.cell ρ.2.toNat (pickLS ρ.2.toNat rn)
        refine wpOp_go (E := True) rfl rfl (fun K' hK => ?_)
        go_simp
        refine hK.out _ _ ⟨ρ, (by simp only [put, e6]; rfl), fun _ _ => rfl, hW.pure (by omega) (by omega) (by omega)⟩
      · have e1 : u 1 = .slice (some ⟨g, 0, none⟩) ns.length c := hu 1 (all_of hp' (by kernel_rfl))
        have e2 : u 2 = .int .i64 (k) := hu 2 (all_of hp' (by kernel_rfl))
        have g1 : (k : Int) < ns.length := by omega
        refine wpOp_go (E := True) rfl rfl (fun K' hK => ?_)
        go_simp
        refine hK.out _ _ ⟨ρ, (by simp only [put, e1, e2]; rfl), fun _ _ => rfl, hW.pure (by omega) (by omega) (by omega)⟩
      · have e8 : u 8 = .pointer (some ⟨g, k * 3, none⟩) := hu 8 (all_of hp' (by kernel_rfl))
        refine wpOp_go (E := True) rfl rfl (fun K' hK => ?_)
        go_simp
        refine hK.out _ _ ⟨ρ, (by simp only [put, e8]; rfl), fun _ _ => rfl, hW.pure (by omega) (by omega) (by omega)⟩
      · have hks : L 10 = false := hl
        have e9 : u 9 = .pointer (some ⟨g, k * 3, none⟩) := hu 9 (all_of hp' (by kernel_rfl))
        have e7 : u 7 = .string (pickS [⟨#[]⟩, ⟨#[110, 48]⟩, ⟨#[110, 105, 110, 101, 99, 104, 97, 114, 115]⟩, ⟨#[101, 105, 103, 104, 116, 99, 104, 97]⟩, ⟨#[78]⟩] ρ.2.toNat) := hu 7 (all_of hp' (by kernel_rfl))
        have hd := hW.t0 hks
        have harr := hd.arrN (by omega)
        obtain ⟨vv, hvv⟩ := harr.some_ (j := k * 3) (by omega)
        have hff := harr.free (j := k * 3) (by omega)
        refine wpOp_go (E := True) rfl rfl (fun K' hK => ?_)
        go_simp
        refine hK.out _ _ ⟨ρ, (by simp only [put, e9, e7]; rfl), fun _ _ => rfl, hW.store (by omega) (by omega) ((Keep.refl _ _).one _) (hd.setN (o := 0) hp hk hx (by omega) rfl)⟩
    · intro L ρ u wx hall hu hW
      obtain ⟨ra, rb⟩ := hW.rr (hall 5 (by show 5 < 11; omega))
      have hd := hW.t1 (hall 10 (by show 10 < 11; omega))
      exact (‹∀ (a : Act) (w_1 : World), Code.wp Tryz.prog _ _ a w_1 → _› : ∀ (a : Act) (w_1 : World), Code.wp Tryz.prog _ _ a w_1 → _) _ _ (l02a_tail w wx p w1.heap.size hp hd (by first | omega | (simp; omega)) (by first | omega | (simp; omega)) (HNM.out ρ.2.toNat) _ _ _ _ _ _ _ _ _ _ _ _ _ _ _ _ _ _ _ _ _ _ _ _ _ _ _ _ _ _ _ _ _ _ _ _ _ _ _ _ _ _ _ _ _ _ _ _ _ _ _ _ _ _ _ _ _ _ _ _ _ _ _ _ _ _ _ _ _ _ _ _ _ _ _ _ _ _ _ _ _ _ _ _ _ _ _ _ _ _ _ _ _ _ _ _ _ _ _ _ _ _ _ _ _)
  by_cases e1 : z = 1
  · subst e1
    go_wp2_with fail
    have HNM := Lib.hid (nmK (k := k) (x' := ⟨x.name, x.lo, 0⟩) HSM.out hx rfl)
    obtain ⟨_, ⟨sl1, sl2⟩, _⟩ := HSM.out x (List.mem_of_getElem? hx)
    have HNM : Hid (∀ v, ∀ y ∈ ns.set k ⟨x.name, x.lo, v⟩, y.name.size ≤ 16) := Lib.hid (fun v => nmK (k := k) (x' := ⟨x.name, x.lo, v⟩) HSM.out hx rfl)
    refine wp_region_tab (R := Nat × Int) (fun u => ⟨#[.pointer (some ⟨p, 0, none⟩), undef, .pointer (some ⟨w.heap.size, 0, none⟩), .pointer (some ⟨w1.heap.size, 0, none⟩), .int .i64 (k), .pointer (some ⟨p, 0, none⟩), netV (some ⟨g, 0, none⟩) Bq ns.length c ps.length d, .pointer (some ⟨p, 0, none⟩), .pointer (some ⟨w1.heap.size, 0, none⟩), .slice (some ⟨g, 0, none⟩) ns.length c, .int .i64 (ns.length), .int .i64 (k), .pointer (some ⟨p, 0, none⟩), .int .i64 (1), .bool false, .bool false, undef, undef, undef, undef, undef, undef, undef, undef, undef, undef, .bool true, .bool true, u 0, u 1, u 2, u 3, u 4, u 5, u 6, u 7, u 8, u 9, u 10, u 11, u 12, u 13, u 14, u 15, u 16, u 17, u 18, u 19, u 20, u 21, u 22, undef, undef, undef, undef, undef, undef, undef, undef, undef, undef, undef, undef, undef, undef, undef, undef, undef, undef, undef, undef, undef, undef, undef, undef, undef, undef, undef, undef, undef, undef, undef, undef, undef, undef, undef, undef, undef, undef, undef, undef, undef, undef, undef, undef, undef, undef, undef, undef, undef, undef, undef, undef, undef, undef, undef, undef], []⟩) (fun ρ q => ([.pointer (some ⟨w1.heap.size, 0, none⟩), .slice (some ⟨g, 0, none⟩) ns.length c, .int .i64 (k), .pointer (some ⟨w1.heap.size, 0, none⟩), .slice (some ⟨g, 0, none⟩) ns.length c, .int .i64 (k), .pointer (some ⟨g, k * 3, none⟩), .pointer (some ⟨g, k * 3 + 1, none⟩), .int .i64 (x.lo), .int .i64 (x.lo - 1), .pointer (some ⟨w1.heap.size, 0, none⟩), .slice (some ⟨g, 0, none⟩) ns.length c, .int .i64 (k), .pointer (some ⟨g, k * 3, none⟩), .pointer (some ⟨g, k * 3 + 1, none⟩), .int .i64 (x.lo), .slice (some ⟨ρ.1, 0, none⟩) 4 4, .pointer (some ⟨p, 0, none⟩), .int .i64 (ρ.2), .pointer (some ⟨ρ.1, ρ.2.toNat, none⟩), .int .i64 (pick [x.lo - 1, x.lo, 100000000, 100000001] ρ.2.toNat), .pointer (some ⟨g, k * 3, none⟩), .pointer (some ⟨g, k * 3 + 2, none⟩), undef] : List Value).getD q undef) (WT 16 18 23 p g 4 (fun W => DA w p w1.heap.size (some ⟨g, 0, none⟩) Bq c d ns ps W) (fun r W => DA w p w1.heap.size (some ⟨g, 0, none⟩) Bq c d (ns.set k ⟨x.name, x.lo, pick [x.lo - 1, x.lo, 100000000, 100000001] r.toNat⟩) ps W) [.int .i64 (x.lo - 1), .int .i64 (x.lo), .int .i64 (100000000), .int .i64 (100000001)] w3) (by kernel_rfl) (by kernel_rfl) (fun _ => undef) rfl (0, 0) (WT.start (Keep.of_below _ (Below.drew (Below.refl _ _))) (HA3.out.below (Below.drew (Below.refl _ _)))) ?_ ?_
    · intro ii hii L ρ u wx hl hp' hc hu hW
      have hii : ii < 24 := hii
      have hii : ii = 0 ∨ ii = 1 ∨ ii = 2 ∨ ii = 3 ∨ ii = 4 ∨ ii = 5 ∨ ii = 6 ∨ ii = 7 ∨ ii = 8 ∨ ii = 9 ∨ ii = 10 ∨ ii = 11 ∨ ii = 12 ∨ ii = 13 ∨ ii = 14 ∨ ii = 15 ∨ ii = 16 ∨ ii = 17 ∨ ii = 18 ∨ ii = 19 ∨ ii = 20 ∨ ii = 21 ∨ ii = 22 ∨ ii = 23 := by omega
      rcases hii with rfl | rfl | rfl | rfl | rfl | rfl | rfl | rfl | rfl | rfl | rfl | rfl | rfl | rfl | rfl | rfl | rfl | rfl | rfl | rfl | rfl | rfl | rfl | rfl
      · refine wpOp_go (E := True) rfl rfl (fun K' hK => ?_)
        go_simp
        refine hK.out _ _ ⟨ρ, (by simp only [put]; rfl), fun _ _ => rfl, hW.pure (by omega) (by omega) (by omega)⟩
      · have hks : L 23 = false := no_later hc (no_later hc (no_later hc hl (by kernel_rfl) : L 21 = false) (by kernel_rfl) : L 22 = false) (by kernel_rfl)
        have e0 : u 0 = .pointer (some ⟨w1.heap.size, 0, none⟩) := hu 0 (all_of hp' (by kernel_rfl))
        have hd := hW.t0 hks
        have xx0 := hd.bX.cell 0 rfl
        have harr := hd.arrN (by omega)
        have xx1 := harr.cell (nd_at hx 1 rfl)
        refine wpOp_go (E := True) rfl rfl (fun K' hK => ?_)
        go_simp
        refine hK.out _ _ ⟨ρ, (by simp only [put, e0]; rfl), fun _ _ => rfl, hW.pure (by omega) (by omega) (by omega)⟩
      · refine wpOp_go (E := True) rfl rfl (fun K' hK => ?_)
        go_simp
        refine hK.out _ _ ⟨ρ, (by simp only [put]; rfl), fun _ _ => rfl, hW.pure (by omega) (by omega) (by omega)⟩
      · refine wpOp_go (E := True) rfl rfl (fun K' hK => ?_)
        go_simp
        refine hK.out _ _ ⟨ρ, (by simp only [put]; rfl), fun _ _ => rfl, hW.pure (by omega) (by omega) (by omega)⟩
      · have hks : L 23 = false := no_later hc (no_later hc (no_later hc (no_later hc (no_later hc (no_later hc (no_later hc (no_later hc hl (by kernel_rfl) : L 6 = false) (by kernel_rfl) : L 7 = false) (by kernel_rfl) : L 8 = false) (by kernel_rfl) : L 9 = false) (by kernel_rfl) : L 16 = false) (by kernel_rfl) : L 19 = false) (by kernel_rfl) : L 20 = false) (by kernel_rfl)
        have e3 : u 3 = .pointer (some ⟨w1.heap.size, 0, none⟩) := hu 3 (all_of hp' (by kernel_rfl))
        have hd := hW.t0 hks
        have xx0 := hd.bX.cell 0 rfl
        have harr := hd.arrN (by omega)
        have xx1 := harr.cell (nd_at hx 1 rfl)
        refine wpOp_go (E := True) rfl rfl (fun K' hK => ?_)
        go_simp
        refine hK.out _ _ ⟨ρ, (by simp only [put, e3]; rfl), fun _ _ => rfl, hW.pure (by omega) (by omega) (by omega)⟩
      · refine wpOp_go (E := True) rfl rfl (fun K' hK => ?_)
        go_simp
        refine hK.out _ _ ⟨ρ, (by simp only [put]; rfl), fun _ _ => rfl, hW.pure (by omega) (by omega) (by omega)⟩
      · have e4 : u 4 = .slice (some ⟨g, 0, none⟩) ns.length c := hu 4 (all_of hp' (by kernel_rfl))
        have e5 : u 5 = .int .i64 (k) := hu 5 (all_of hp' (by kernel_rfl))
        have g1 : (k : Int) < ns.length := by omega
        refine wpOp_go (E := True) rfl rfl (fun K' hK => ?_)
        go_simp
        refine hK.out _ _ ⟨ρ, (by simp only [put, e4, e5]; rfl), fun _ _ => rfl, hW.pure (by omega) (by omega) (by omega)⟩
      · have e6 : u 6 = .pointer (some ⟨g, k * 3, none⟩) := hu 6 (all_of hp' (by kernel_rfl))
        refine wpOp_go (E := True) rfl rfl (fun K' hK => ?_)
        go_simp
        refine hK.out _ _ ⟨ρ, (by simp only [put, e6]; rfl), fun _ _ => rfl, hW.pure (by omega) (by omega) (by omega)⟩
      · have hks : L 23 = false := no_later hc (no_later hc (no_later hc (no_later hc (no_later hc hl (by kernel_rfl) : L 9 = false) (by kernel_rfl) : L 16 = false) (by kernel_rfl) : L 19 = false) (by kernel_rfl) : L 20 = false) (by kernel_rfl)
        have e7 : u 7 = .pointer (some ⟨g, k * 3 + 1, none⟩) := hu 7 (all_of hp' (by kernel_rfl))
        have hd := hW.t0 hks
        have xx0 := hd.bX.cell 0 rfl
        have harr := hd.arrN (by omega)
        have xx1 := harr.cell (nd_at hx 1 rfl)
        refine wpOp_go (E := True) rfl rfl (fun K' hK => ?_)
        go_simp
        refine hK.out _ _ ⟨ρ, (by simp only [put, e7]; rfl), fun _ _ => rfl, hW.pure (by omega) (by omega) (by omega)⟩
      · have e8 : u 8 = .int .i64 (x.lo) := hu 8 (all_of hp' (by kernel_rfl))
        have q1 : IntKind.i64.wrap (x.lo - 1) = x.lo - 1 := IntWalk.i64_in _ (by omega)
        refine wpOp_go (E := True) rfl rfl (fun K' hK => ?_)
        go_simp
        refine hK.out _ _ ⟨ρ, (by simp only [put, e8]; rfl), fun _ _ => rfl, hW.pure (by omega) (by omega) (by omega)⟩
      · refine wpOp_go (E := True) rfl rfl (fun K' hK => ?_)
        go_simp
        refine hK.out _ _ ⟨ρ, (by simp only [put]; rfl), fun _ _ => rfl, hW.pure (by omega) (by omega) (by omega)⟩
      · have hks : L 23 = false := no_later hc (no_later hc (no_later hc (no_later hc (no_later hc (no_later hc (no_later hc hl (by kernel_rfl) : L 13 = false) (by kernel_rfl) : L 14 = false) (by kernel_rfl) : L 15 = false) (by kernel_rfl) : L 16 = false) (by kernel_rfl) : L 19 = false) (by kernel_rfl) : L 20 = false) (by kernel_rfl)
        have e10 : u 10 = .pointer (some ⟨w1.heap.size, 0, none⟩) := hu 10 (all_of hp' (by kernel_rfl))
        have hd := hW.t0 hks
        have xx0 := hd.bX.cell 0 rfl
        have harr := hd.arrN (by omega)
        have xx1 := harr.cell (nd_at hx 1 rfl)
        refine wpOp_go (E := True) rfl rfl (fun K' hK => ?_)
        go_simp
        refine hK.out _ _ ⟨ρ, (by simp only [put, e10]; rfl), fun _ _ => rfl, hW.pure (by omega) (by omega) (by omega)⟩
      · refine wpOp_go (E := True) rfl rfl (fun K' hK => ?_)
        go_simp
        refine hK.out _ _ ⟨ρ, (by simp only [put]; rfl), fun _ _ => rfl, hW.pure (by omega) (by omega) (by omega)⟩
      · have e11 : u 11 = .slice (some ⟨g, 0, none⟩) ns.length c := hu 11 (all_of hp' (by kernel_rfl))
        have e12 : u 12 = .int .i64 (k) := hu 12 (all_of hp' (by kernel_rfl))
        have g1 : (k : Int) < ns.length := by omega
        refine wpOp_go (E := True) rfl rfl (fun K' hK => ?_)
        go_simp
        refine hK.out _ _ ⟨ρ, (by simp only [put, e11, e12]; rfl), fun _ _ => rfl, hW.pure (by omega) (by omega) (by omega)⟩
      · have e13 : u 13 = .pointer (some ⟨g, k * 3, none⟩) := hu 13 (all_of hp' (by kernel_rfl))
        refine wpOp_go (E := True) rfl rfl (fun K' hK => ?_)
        go_simp
        refine hK.out _ _ ⟨ρ, (by simp only [put, e13]; rfl), fun _ _ => rfl, hW.pure (by omega) (by omega) (by omega)⟩
      · have hks : L 23 = false := no_later hc (no_later hc (no_later hc (no_later hc hl (by kernel_rfl) : L 16 = false) (by kernel_rfl) : L 19 = false) (by kernel_rfl) : L 20 = false) (by kernel_rfl)
        have e14 : u 14 = .pointer (some ⟨g, k * 3 + 1, none⟩) := hu 14 (all_of hp' (by kernel_rfl))
        have hd := hW.t0 hks
        have xx0 := hd.bX.cell 0 rfl
        have harr := hd.arrN (by omega)
        have xx1 := harr.cell (nd_at hx 1 rfl)
        refine wpOp_go (E := True) rfl rfl (fun K' hK => ?_)
        go_simp
        refine hK.out _ _ ⟨ρ, (by simp only [put, e14]; rfl), fun _ _ => rfl, hW.pure (by omega) (by omega) (by omega)⟩
      · have hks : L 23 = false := no_later hc (no_later hc (no_later hc hl (by kernel_rfl) : L 19 = false) (by kernel_rfl) : L 20 = false) (by kernel_rfl)
        have e9 : u 9 = .int .i64 (x.lo - 1) := hu 9 (all_of hp' (by kernel_rfl))
        have e15 : u 15 = .int .i64 (x.lo) := hu 15 (all_of hp' (by kernel_rfl))
        refine wpOp_go (E := True) rfl rfl (fun K' hK => ?_)
        go_simp
        have hba : Below wx.heap.size wx (wx.alloc (.cells #[.int .i64 (x.lo - 1), .int .i64 (x.lo), .int .i64 (100000000), .int .i64 (100000001)] 2)) := by (repeat' (first | (with_reducible exact Below.refl _ _) | (with_reducible assumption) | (with_reducible refine Below.alloc ?_ ?_ _) | (with_reducible refine Below.drew ?_) | (with_reducible refine Below.drewN' ?_ _) | (with_reducible refine Below.setCell ?_ ?_ _) | (refine Below.via ?_ (by with_reducible assumption) ?_) | (with_reducible refine Below.via ?_ (Wd.h _) ?_) | go_size))
        refine hK.out _ _ ⟨(wx.heap.size, ρ.2), (by simp only [put, e9, e15]; rfl), fun q hj => by
              have n19 : L 19 = false := no_later hc hl (by kernel_rfl)
              have n20 : L 20 = false := no_later hc n19 (by kernel_rfl)
              have n23 : L 23 = false := no_later hc n20 (by kernel_rfl)
              match q, hj with
              | 0, _ => rfl
              | 1, _ => rfl
              | 2, _ => rfl
              | 3, _ => rfl
              | 4, _ => rfl
              | 5, _ => rfl
              | 6, _ => rfl
              | 7, _ => rfl
              | 8, _ => rfl
              | 9, _ => rfl
              | 10, _ => rfl
              | 11, _ => rfl
              | 12, _ => rfl
              | 13, _ => rfl
              | 14, _ => rfl
              | 15, _ => rfl
              | 16, hj => rw [hl] at hj; cases hj
              | 17, _ => rfl
              | 18, _ => rfl
              | 19, hj => rw [n19] at hj; cases hj
              | 20, hj => rw [n20] at hj; cases hj
              | 21, _ => rfl
              | 22, _ => rfl
              | 23, hj => rw [n23] at hj; cases hj
              | _ + 24, _ => rfl, hW.alloc (by omega) (by omega) hks hba ((hW.t0 hks).below hba) (bx4 (by simp) (by simp) (by simp) (by simp) (by simp) (by simp) (by simp) (by simp) (by simp))⟩
      · refine wpOp_go (E := True) rfl rfl (fun K' hK => ?_)
        go_simp
        refine hK.out _ _ ⟨ρ, (by simp only [put]; rfl), fun _ _ => rfl, hW.pure (by omega) (by omega) (by omega)⟩
      · have hks : L 23 = false := no_later hc hl (by kernel_rfl)
        have e17 : u 17 = .pointer (some ⟨p, 0, none⟩) := hu 17 (all_of hp' (by kernel_rfl))
        refine wpOp_go (E := True) rfl rfl (fun K' hK => ?_)
        go_simp
        go_at_call 23
        refine (spec_l01Next _ _ _ (hW.t0 hks).src (by omega)).mono ?_
        rintro e' w5 ⟨r, rfl, ra, _, rb, hs5, hk5⟩
        have rc := rb (by omega)
        refine hK.out _ _ ⟨(ρ.1, r), (by simp only [put, e17]; rfl), fun q hj => by
              have n19 : L 19 = false := no_later hc hl (by kernel_rfl)
              have n20 : L 20 = false := no_later hc n19 (by kernel_rfl)
              have n23 : L 23 = false := no_later hc n20 (by kernel_rfl)
              match q, hj with
              | 0, _ => rfl
              | 1, _ => rfl
              | 2, _ => rfl
              | 3, _ => rfl
              | 4, _ => rfl
              | 5, _ => rfl
              | 6, _ => rfl
              | 7, _ => rfl
              | 8, _ => rfl
              | 9, _ => rfl
              | 10, _ => rfl
              | 11, _ => rfl
              | 12, _ => rfl
              | 13, _ => rfl
              | 14, _ => rfl
              | 15, _ => rfl
              | 16, _ => rfl
              | 17, _ => rfl
              | 18, hj => rw [hl] at hj; cases hj
              | 19, hj => rw [n19] at hj; cases hj
              | 20, hj => rw [n20] at hj; cases hj
              | 21, _ => rfl
              | 22, _ => rfl
              | 23, hj => rw [n23] at hj; cases hj
              | _ + 24, _ => rfl, hW.call (by omega) (by omega) (by omega) hks hk5 ((hW.t0 hks).keep hp hk5 hs5) ra rc⟩
      · have e16 : u 16 = .slice (some ⟨ρ.1, 0, none⟩) 4 4 := hu 16 (all_of hp' (by kernel_rfl))
        have e18 : u 18 = .int .i64 (ρ.2) := hu 18 (all_of hp' (by kernel_rfl))
        obtain ⟨ra, rb⟩ := hW.rr (all_of hp' (by kernel_rfl))
        have rn : ρ.2.toNat < 4 := by omega
        refine wpOp_go (E := True) rfl rfl (fun K' hK => ?_)
        go_simp
        refine hK.out _ _ ⟨ρ, (by simp only [put, e16, e18]; rfl), fun _ _ => rfl, hW.pure (by omega) (by omega) (by omega)⟩
      · have e19 : u 19 = .pointer (some ⟨ρ.1, ρ.2.toNat, none⟩) := hu 19 (all_of hp' (by kernel_rfl))
        obtain ⟨ra, rb⟩ := hW.rr (all_of (hc 19 (all_of hp' (by kernel_rfl))) (by kernel_rfl))
        have rn : ρ.2.toNat < 4 := by omega
        have hks : L 23 = false := no_later hc hl (by kernel_rfl)
        obtain ⟨hg', hga⟩ := hW.ar hks (all_of (hc 19 (all_of hp' (by kernel_rfl))) (by kernel_rfl))
        have hgx := hga.cell ρ.2.toNat (pickL4 (x.lo - 1) x.lo 100000000 100000001 ρ.2.toNat rn)
        refine wpOp_go (E := True) rfl rfl (fun K' hK => ?_)
        go_simp
        refine hK.out _ _ ⟨ρ, (by simp only [put, e19]; rfl), fun _ _ => rfl, hW.pure (by omega) (by omega) (by omega)⟩
      · have e1 : u 1 = .slice (some ⟨g, 0, none⟩) ns.length c := hu 1 (all_of hp' (by kernel_rfl))
        have e2 : u 2 = .int .i64 (k) := hu 2 (all_of hp' (by kernel_rfl))
        have g1 : (k : Int) < ns.length := by omega
        refine wpOp_go (E := True) rfl rfl (fun K' hK => ?_)
        go_simp
        refine hK.out _ _ ⟨ρ, (by simp only [put, e1, e2]; rfl), fun _ _ => rfl, hW.pure (by omega) (by omega) (by omega)⟩
      · have e21 : u 21 = .pointer (some ⟨g, k * 3, none⟩) := hu 21 (all_of hp' (by kernel_rfl))
        refine wpOp_go (E := True) rfl rfl (fun K' hK => ?_)
        go_simp
        refine hK.out _ _ ⟨ρ, (by simp only [put, e21]; rfl), fun _ _ => rfl, hW.pure (by omega) (by omega) (by omega)⟩
      · have hks : L 23 = false := hl
        have e22 : u 22 = .pointer (some ⟨g, k * 3 + 2, none⟩) := hu 22 (all_of hp' (by kernel_rfl))
        have e20 : u 20 = .int .i64 (pick [x.lo - 1, x.lo, 100000000, 100000001] ρ.2.toNat) := hu 20 (all_of hp' (by kernel_rfl))
        have hd := hW.t0 hks
        have harr := hd.arrN (by omega)
        obtain ⟨vv, hvv⟩ := harr.some_ (j := k * 3 + 2) (by omega)
        have hff := harr.free (j := k * 3 + 2) (by omega)
        refine wpOp_go (E := True) rfl rfl (fun K' hK => ?_)
        go_simp
        refine hK.out _ _ ⟨ρ, (by simp only [put, e22, e20]; rfl), fun _ _ => rfl, hW.store (by omega) (by omega) ((Keep.refl _ _).one _) (hd.setN (o := 2) hp hk hx (by omega) rfl)⟩
    · intro L ρ u wx hall hu hW
      obtain ⟨ra, rb⟩ := hW.rr (hall 18 (by show 18 < 24; omega))
      have hd := hW.t1 (hall 23 (by show 23 < 24; omega))
      exact (‹∀ (a : Act) (w_1 : World), Code.wp Tryz.prog _ _ a w_1 → _› : ∀ (a : Act) (w_1 : World), Code.wp Tryz.prog _ _ a w_1 → _) _ _ (l02a_tail w wx p w1.heap.size hp hd (by first | omega | (simp; omega)) (by first | omega | (simp; omega)) (HNM.out _) _ _ _ _ _ _ _ _ _ _ _ _ _ _ _ _ _ _ _ _ _ _ _ _ _ _ _ _ _ _ _ _ _ _ _ _ _ _ _ _ _ _ _ _ _ _ _ _ _ _ _ _ _ _ _ _ _ _ _ _ _ _ _ _ _ _ _ _ _ _ _ _ _ _ _ _ _ _ _ _ _ _ _ _ _ _ _ _ _ _ _ _ _ _ _ _ _ _ _ _ _ _ _ _ _)
  have HNM0 := Lib.hid (show ∀ y ∈ ns, y.name.size ≤ 16 from fun y hy => (HSM.out y hy).1)
  by_cases e4 : z = 4
  · subst e4
    by_cases h0 : ps.length = 0
    · have g5 : ¬ (0 : Int) < ps.length := by omega
      have hD := HA3.out
      have hbX := hD.bX
      have hb0 := hD.b0
      have hy7 := hbX.lt; have cw7_0 := hbX.cell 0 rfl; have fw7_0 := hbX.frozen 0 rfl; have cw7_1 := hbX.cell 1 rfl; have fw7_1 := hbX.frozen 1 rfl
      have hy0 := hb0.lt; have cw0_0 := hb0.cell 0 rfl; have fw0_0 := hb0.frozen 0 rfl; have cw0_1 := hb0.cell 1 rfl; have fw0_1 := hb0.frozen 1 rfl
      clear hbX hb0 hD
      have hsz := HA3.out.sz
      go_wp2
      refine bodyPost_ret (by simp [results, Tryz.results56, go_sem, cw0_0, cw0_1]; try rfl) rfl ?_
      have := l02a_post hp HA3.out (by omega) (by omega) HNM0.out
      simpa [h0, netV] using this
    · have g5 : (0 : Int) < ps.length := by omega
      have hpq : 0 < ps.length := by omega
      obtain ⟨y, hpx⟩ := get_some hpq
      obtain ⟨g2, d', hw, _, _, _⟩ := HA3.out.o2.arr hpq
      injection hw with hw1 hw2 hw3
      subst hw1 hw3
      have xx1 := HA3.out.bX.cell 1 rfl
      go_wp2_with fail
      clear xx1
      refine wp_region_tab (R := Nat × Int) (fun u => ⟨#[.pointer (some ⟨p, 0, none⟩), undef, .pointer (some ⟨w.heap.size, 0, none⟩), .pointer (some ⟨w1.heap.size, 0, none⟩), .int .i64 (k), .pointer (some ⟨p, 0, none⟩), netV (some ⟨g, 0, none⟩) (some ⟨g2, 0, none⟩) ns.length c ps.length d, .pointer (some ⟨p, 0, none⟩), .pointer (some ⟨w1.heap.size, 0, none⟩), .slice (some ⟨g, 0, none⟩) ns.length c, .int .i64 (ns.length), .int .i64 (k), .pointer (some ⟨p, 0, none⟩), .int .i64 (4), .bool false, .bool false, undef, undef, undef, undef, undef, undef, undef, undef, undef, undef, .bool false, .bool false, undef, undef, undef, undef, undef, undef, undef, undef, undef, undef, undef, undef, undef, undef, undef, undef, undef, undef, undef, undef, undef, undef, undef, .bool false, .bool false, undef, undef, undef, undef, undef, undef, undef, undef, .bool false, .bool false, undef, undef, undef, undef, undef, undef, undef, undef, undef, undef, .bool true, .bool true, .pointer (some ⟨w1.heap.size, 1, none⟩), .slice (some ⟨g2, 0, none⟩) ps.length d, .int .i64 (ps.length), .bool true, u 0, u 1, u 2, u 3, u 4, u 5, u 6, u 7, u 8, undef, undef, undef, undef, undef, undef, undef, undef, undef, undef, undef, undef, undef, undef, undef, undef, undef, undef, undef], []⟩) (fun ρ q => ([.pointer (some ⟨w1.heap.size, 1, none⟩), .slice (some ⟨g2, 0, none⟩) ps.length d, .slice (some ⟨ρ.1, 0, none⟩) 3 3, .pointer (some ⟨p, 0, none⟩), .int .i64 (ρ.2), .pointer (some ⟨ρ.1, ρ.2.toNat, none⟩), .int .i64 (pick [0, 1000, 1001] ρ.2.toNat), .pointer (some ⟨g2, 0, none⟩), .pointer (some ⟨g2, 2, none⟩), undef] : List Value).getD q undef) (WT 2 4 9 p g2 3 (fun W => DA w p w1.heap.size (some ⟨g, 0, none⟩) (some ⟨g2, 0, none⟩) c d ns ps W) (fun r W => DA w p w1.heap.size (some ⟨g, 0, none⟩) (some ⟨g2, 0, none⟩) c d ns (ps.set 0 ⟨y.f, y.t, pick [0, 1000, 1001] r.toNat, y.vol, y.lim⟩) W) [.int .i64 (0), .int .i64 (1000), .int .i64 (1001)] w3) (by kernel_rfl) (by kernel_rfl) (fun _ => undef) rfl (0, 0) (WT.start (Keep.of_below _ (Below.drew (Below.refl _ _))) (HA3.out.below (Below.drew (Below.refl _ _)))) ?_ ?_
      · intro ii hii L ρ u wx hl hp' hc hu hW
        have hii : ii < 10 := hii
        have hii : ii = 0 ∨ ii = 1 ∨ ii = 2 ∨ ii = 3 ∨ ii = 4 ∨ ii = 5 ∨ ii = 6 ∨ ii = 7 ∨ ii = 8 ∨ ii = 9 := by omega
        rcases hii with rfl | rfl | rfl | rfl | rfl | rfl | rfl | rfl | rfl | rfl
        · refine wpOp_go (E := True) rfl rfl (fun K' hK => ?_)
          go_simp
          refine hK.out _ _ ⟨ρ, (by simp only [put]; rfl), fun _ _ => rfl, hW.pure (by omega) (by omega) (by omega)⟩
        · have hks : L 9 = false := no_later hc (no_later hc (no_later hc hl (by kernel_rfl) : L 7 = false) (by kernel_rfl) : L 8 = false) (by kernel_rfl)
          have e0 : u 0 = .pointer (some ⟨w1.heap.size, 1, none⟩) := hu 0 (all_of hp' (by kernel_rfl))
          have hd := hW.t0 hks
          have xx0 := hd.bX.cell 1 rfl
          refine wpOp_go (E := True) rfl rfl (fun K' hK => ?_)
          go_simp
          refine hK.out _ _ ⟨ρ, (by simp only [put, e0]; rfl), fun _ _ => rfl, hW.pure (by omega) (by omega) (by omega)⟩
        · have hks : L 9 = false := no_later hc (no_later hc (no_later hc hl (by kernel_rfl) : L 5 = false) (by kernel_rfl) : L 6 = false) (by kernel_rfl)
          refine wpOp_go (E := True) rfl rfl (fun K' hK => ?_)
          go_simp
          have hba : Below wx.heap.size wx (wx.alloc (.cells #[.int .i64 (0), .int .i64 (1000), .int .i64 (1001)] 2)) := by (repeat' (first | (with_reducible exact Below.refl _ _) | (with_reducible assumption) | (with_reducible refine Below.alloc ?_ ?_ _) | (with_reducible refine Below.drew ?_) | (with_reducible refine Below.drewN' ?_ _) | (with_reducible refine Below.setCell ?_ ?_ _) | (refine Below.via ?_ (by with_reducible assumption) ?_) | (with_reducible refine Below.via ?_ (Wd.h _) ?_) | go_size))
          refine hK.out _ _ ⟨(wx.heap.size, ρ.2), (by simp only [put]; rfl), fun q hj => by
                have n5 : L 5 = false := no_later hc hl (by kernel_rfl)
                have n6 : L 6 = false := no_later hc n5 (by kernel_rfl)
                have n9 : L 9 = false := no_later hc n6 (by kernel_rfl)
                match q, hj with
                | 0, _ => rfl
                | 1, _ => rfl
                | 2, hj => rw [hl] at hj; cases hj
                | 3, _ => rfl
                | 4, _ => rfl
                | 5, hj => rw [n5] at hj; cases hj
                | 6, hj => rw [n6] at hj; cases hj
                | 7, _ => rfl
                | 8, _ => rfl
                | 9, hj => rw [n9] at hj; cases hj
                | _ + 10, _ => rfl, hW.alloc (by omega) (by omega) hks hba ((hW.t0 hks).below hba) (bx3 (by simp) (by simp) (by simp) (by simp) (by simp) (by simp) (by simp))⟩
        · refine wpOp_go (E := True) rfl rfl (fun K' hK => ?_)
          go_simp
          refine hK.out _ _ ⟨ρ, (by simp only [put]; rfl), fun _ _ => rfl, hW.pure (by omega) (by omega) (by omega)⟩
        · have hks : L 9 = false := no_later hc hl (by kernel_rfl)
          have e3 : u 3 = .pointer (some ⟨p, 0, none⟩) := hu 3 (all_of hp' (by kernel_rfl))
          refine wpOp_go (E := True) rfl rfl (fun K' hK => ?_)
          go_simp
          go_at_call 23
          refine (spec_l01Next _ _ _ (hW.t0 hks).src (by omega)).mono ?_
          rintro e' w5 ⟨r, rfl, ra, _, rb, hs5, hk5⟩
          have rc := rb (by omega)
          refine hK.out _ _ ⟨(ρ.1, r), (by simp only [put, e3]; rfl), fun q hj => by
                have n5 : L 5 = false := no_later hc hl (by kernel_rfl)
                have n6 : L 6 = false := no_later hc n5 (by kernel_rfl)
                have n9 : L 9 = false := no_later hc n6 (by kernel_rfl)
                match q, hj with
                | 0, _ => rfl
                | 1, _ => rfl
                | 2, _ => rfl
                | 3, _ => rfl
                | 4, hj => rw [hl] at hj; cases hj
                | 5, hj => rw [n5] at hj; cases hj
                | 6, hj => rw [n6] at hj; cases hj
                | 7, _ => rfl
                | 8, _ => rfl
                | 9, hj => rw [n9] at hj; cases hj
                | _ + 10, _ => rfl, hW.call (by omega) (by omega) (by omega) hks hk5 ((hW.t0 hks).keep hp hk5 hs5) ra rc⟩
        · have e2 : u 2 = .slice (some ⟨ρ.1, 0, none⟩) 3 3 := hu 2 (all_of hp' (by kernel_rfl))
          have e4 : u 4 = .int .i64 (ρ.2) := hu 4 (all_of hp' (by kernel_rfl))
          obtain ⟨ra, rb⟩ := hW.rr (all_of hp' (by kernel_rfl))
          have rn : ρ.2.toNat < 3 := by omega
          refine wpOp_go (E := True) rfl rfl (fun K' hK => ?_)
          go_simp
          refine hK.out _ _ ⟨ρ, (by simp only [put, e2, e4]; rfl), fun _ _ => rfl, hW.pure (by omega) (by omega) (by omega)⟩
        · have e5 : u 5 = .pointer (some ⟨ρ.1, ρ.2.toNat, none⟩) := hu 5 (all_of hp' (by kernel_rfl))
          obtain ⟨ra, rb⟩ := hW.rr (all_of (hc 5 (all_of hp' (by kernel_rfl))) (by kernel_rfl))
          have rn : ρ.2.toNat < 3 := by omega
          have hks : L 9 = false := no_later hc hl (by kernel_rfl)
          obtain ⟨hg', hga⟩ := hW.ar hks (all_of (hc 5 (all_of hp' (by kernel_rfl))) (by kernel_rfl))
          have hgx := hga.cell ρ.2.toNat (pickL3 0 1000 1001 ρ.2.toNat rn)
          refine wpOp_go (E := True) rfl rfl (fun K' hK => ?_)
          go_simp
          refine hK.out _ _ ⟨ρ, (by simp only [put, e5]; rfl), fun _ _ => rfl, hW.pure (by omega) (by omega) (by omega)⟩
        · have e1 : u 1 = .slice (some ⟨g2, 0, none⟩) ps.length d := hu 1 (all_of hp' (by kernel_rfl))
          have g1 : (0 : Int) < ps.length := by omega
          refine wpOp_go (E := True) rfl rfl (fun K' hK => ?_)
          go_simp
          refine hK.out _ _ ⟨ρ, (by simp only [put, e1]; rfl), fun _ _ => rfl, hW.pure (by omega) (by omega) (by omega)⟩
        · have e7 : u 7 = .pointer (some ⟨g2, 0, none⟩) := hu 7 (all_of hp' (by kernel_rfl))
          refine wpOp_go (E := True) rfl rfl (fun K' hK => ?_)
          go_simp
          refine hK.out _ _ ⟨ρ, (by simp only [put, e7]; rfl), fun _ _ => rfl, hW.pure (by omega) (by omega) (by omega)⟩
        · have hks : L 9 = false := hl
          have e8 : u 8 = .pointer (some ⟨g2, 2, none⟩) := hu 8 (all_of hp' (by kernel_rfl))
          have e6 : u 6 = .int .i64 (pick [0, 1000, 1001] ρ.2.toNat) := hu 6 (all_of hp' (by kernel_rfl))
          have hd := hW.t0 hks
          have harr := hd.arrP (by omega)
          obtain ⟨vv, hvv⟩ := harr.some_ (j := 2) (by omega)
          have hff := harr.free (j := 2) (by omega)
          refine wpOp_go (E := True) rfl rfl (fun K' hK => ?_)
          go_simp
          refine hK.out _ _ ⟨ρ, (by simp only [put, e8, e6]; rfl), fun _ _ => rfl, hW.store (by omega) (by omega) ((Keep.refl _ _).one _) (hd.setP (o := 2) hp hpq hpx (by omega) rfl)⟩
      · intro L ρ u wx hall hu hW
        obtain ⟨ra, rb⟩ := hW.rr (hall 4 (by show 4 < 10; omega))
        have hd := hW.t1 (hall 9 (by show 9 < 10; omega))
        exact (‹∀ (a : Act) (w_1 : World), Code.wp Tryz.prog _ _ a w_1 → _› : ∀ (a : Act) (w_1 : World), Code.wp Tryz.prog _ _ a w_1 → _) _ _ (l02a_tail w wx p w1.heap.size hp hd (by first | omega | (simp; omega)) (by first | omega | (simp; omega)) HNM0.out _ _ _ _ _ _ _ _ _ _ _ _ _ _ _ _ _ _ _ _ _ _ _ _ _ _ _ _ _ _ _ _ _ _ _ _ _ _ _ _ _ _ _ _ _ _ _ _ _ _ _ _ _ _ _ _ _ _ _ _ _ _ _ _ _ _ _ _ _ _ _ _ _ _ _ _ _ _ _ _ _ _ _ _ _ _ _ _ _ _ _ _ _ _ _ _ _ _ _ _ _ _ _ _ _)
  by_cases e5 : z = 5
  · subst e5
    by_cases h0 : ps.length = 0
    · have g5 : ¬ (0 : Int) < ps.length := by omega
      have hD := HA3.out
      have hbX := hD.bX
      have hb0 := hD.b0
      have hy7 := hbX.lt; have cw7_0 := hbX.cell 0 rfl; have fw7_0 := hbX.frozen 0 rfl; have cw7_1 := hbX.cell 1 rfl; have fw7_1 := hbX.frozen 1 rfl
      have hy0 := hb0.lt; have cw0_0 := hb0.cell 0 rfl; have fw0_0 := hb0.frozen 0 rfl; have cw0_1 := hb0.cell 1 rfl; have fw0_1 := hb0.frozen 1 rfl
      clear hbX hb0 hD
      have hsz := HA3.out.sz
      go_wp2
      refine bodyPost_ret (by simp [results, Tryz.results56, go_sem, cw0_0, cw0_1]; try rfl) rfl ?_
      have := l02a_post hp HA3.out (by omega) (by omega) HNM0.out
      simpa [h0, netV] using this
    · have g5 : (0 : Int) < ps.length := by omega
      have hpq : 0 < ps.length := by omega
      obtain ⟨y, hpx⟩ := get_some hpq
      obtain ⟨g2, d', hw, _, _, _⟩ := HA3.out.o2.arr hpq
      injection hw with hw1 hw2 hw3
      subst hw1 hw3
      have xx1 := HA3.out.bX.cell 1 rfl
      go_wp2_with fail
      clear xx1
      refine wp_region_tab (R := Nat × Int) (fun u => ⟨#[.pointer (some ⟨p, 0, none⟩), undef, .pointer (some ⟨w.heap.size, 0, none⟩), .pointer (some ⟨w1.heap.size, 0, none⟩), .int .i64 (k), .pointer (some ⟨p, 0, none⟩), netV (some ⟨g, 0, none⟩) (some ⟨g2, 0, none⟩) ns.length c ps.length d, .pointer (some ⟨p, 0, none⟩), .pointer (some ⟨w1.heap.size, 0, none⟩), .slice (some ⟨g, 0, none⟩) ns.length c, .int .i64 (ns.length), .int .i64 (k), .pointer (some ⟨p, 0, none⟩), .int .i64 (5), .bool false, .bool false, undef, undef, undef, undef, undef, undef, undef, undef, undef, undef, .bool false, .bool false, undef, undef, undef, undef, undef, undef, undef, undef, undef, undef, undef, undef, undef, undef, undef, undef, undef, undef, undef, undef, undef, undef, undef, .bool false, .bool false, undef, undef, undef, undef, undef, undef, undef, undef, .bool false, .bool false, undef, undef, undef, undef, undef, undef, undef, undef, undef, undef, .bool false, .bool false, undef, undef, undef, undef, undef, undef, undef, undef, undef, undef, undef, undef, undef, .bool true, .bool true, .pointer (some ⟨w1.heap.size, 1, none⟩), .slice (some ⟨g2, 0, none⟩) ps.length d, .int .i64 (ps.length), .bool true, u 0, u 1, u 2, u 3, u 4, u 5, u 6, u 7, u 8, undef, undef, undef, undef], []⟩) (fun ρ q => ([.pointer (some ⟨w1.heap.size, 1, none⟩), .slice (some ⟨g2, 0, none⟩) ps.length d, .slice (some ⟨ρ.1, 0, none⟩) 3 3, .pointer (some ⟨p, 0, none⟩), .int .i64 (ρ.2), .pointer (some ⟨ρ.1, ρ.2.toNat, none⟩), .int .i64 (pick [0, 30000, 30001] ρ.2.toNat), .pointer (some ⟨g2, 0, none⟩), .pointer (some ⟨g2, 4, none⟩), undef] : List Value).getD q undef) (WT 2 4 9 p g2 3 (fun W => DA w p w1.heap.size (some ⟨g, 0, none⟩) (some ⟨g2, 0, none⟩) c d ns ps W) (fun r W => DA w p w1.heap.size (some ⟨g, 0, none⟩) (some ⟨g2, 0, none⟩) c d ns (ps.set 0 ⟨y.f, y.t, y.k, y.vol, pick [0, 30000, 30001] r.toNat⟩) W) [.int .i64 (0), .int .i64 (30000), .int .i64 (30001)] w3) (by kernel_rfl) (by kernel_rfl) (fun _ => undef) rfl (0, 0) (WT.start (Keep.of_below _ (Below.drew (Below.refl _ _))) (HA3.out.below (Below.drew (Below.refl _ _)))) ?_ ?_
      · intro ii hii L ρ u wx hl hp' hc hu hW
        have hii : ii < 10 := hii
        have hii : ii = 0 ∨ ii = 1 ∨ ii = 2 ∨ ii = 3 ∨ ii = 4 ∨ ii = 5 ∨ ii = 6 ∨ ii = 7 ∨ ii = 8 ∨ ii = 9 := by omega
        rcases hii with rfl | rfl | rfl | rfl | rfl | rfl | rfl | rfl | rfl | rfl
        · refine wpOp_go (E := True) rfl rfl (fun K' hK => ?_)
          go_simp
          refine hK.out _ _ ⟨ρ, (by simp only [put]; rfl), fun _ _ => rfl, hW.pure (by omega) (by omega) (by omega)⟩
        · have hks : L 9 = false := no_later hc (no_later hc (no_later hc hl (by kernel_rfl) : L 7 = false) (by kernel_rfl) : L 8 = false) (by kernel_rfl)
          have e0 : u 0 = .pointer (some ⟨w1.heap.size, 1, none⟩) := hu 0 (all_of hp' (by kernel_rfl))
          have hd := hW.t0 hks
          have xx0 := hd.bX.cell 1 rfl
          refine wpOp_go (E := True) rfl rfl (fun K' hK => ?_)
          go_simp
          refine hK.out _ _ ⟨ρ, (by simp only [put, e0]; rfl), fun _ _ => rfl, hW.pure (by omega) (by omega) (by omega)⟩
        · have hks : L 9 = false := no_later hc (no_later hc (no_later hc hl (by kernel_rfl) : L 5 = false) (by kernel_rfl) : L 6 = false) (by kernel_rfl)
          refine wpOp_go (E := True) rfl rfl (fun K' hK => ?_)
          go_simp
          have hba : Below wx.heap.size wx (wx.alloc (.cells #[.int .i64 (0), .int .i64 (30000), .int .i64 (30001)] 2)) := by (repeat' (first | (with_reducible exact Below.refl _ _) | (with_reducible assumption) | (with_reducible refine Below.alloc ?_ ?_ _) | (with_reducible refine Below.drew ?_) | (with_reducible refine Below.drewN' ?_ _) | (with_reducible refine Below.setCell ?_ ?_ _) | (refine Below.via ?_ (by with_reducible assumption) ?_) | (with_reducible refine Below.via ?_ (Wd.h _) ?_) | go_size))
          refine hK.out _ _ ⟨(wx.heap.size, ρ.2), (by simp only [put]; rfl), fun q hj => by
                have n5 : L 5 = false := no_later hc hl (by kernel_rfl)
                have n6 : L 6 = false := no_later hc n5 (by kernel_rfl)
                have n9 : L 9 = false := no_later hc n6 (by kernel_rfl)
                match q, hj with
                | 0, _ => rfl
                | 1, _ => rfl
                | 2, hj => rw [hl] at hj; cases hj
                | 3, _ => rfl
                | 4, _ => rfl
                | 5, hj => rw [n5] at hj; cases hj
                | 6, hj => rw [n6] at hj; cases hj
                | 7, _ => rfl
                | 8, _ => rfl
                | 9, hj => rw [n9] at hj; cases hj
                | _ + 10, _ => rfl, hW.alloc (by omega) (by omega) hks hba ((hW.t0 hks).below hba) (bx3 (by simp) (by simp) (by simp) (by simp) (by simp) (by simp) (by simp))⟩
        · refine wpOp_go (E := True) rfl rfl (fun K' hK => ?_)
          go_simp
          refine hK.out _ _ ⟨ρ, (by simp only [put]; rfl), fun _ _ => rfl, hW.pure (by omega) (by omega) (by omega)⟩
        · have hks : L 9 = false := no_later hc hl (by kernel_rfl)
          have e3 : u 3 = .pointer (some ⟨p, 0, none⟩) := hu 3 (all_of hp' (by kernel_rfl))
          refine wpOp_go (E := True) rfl rfl (fun K' hK => ?_)
          go_simp
          go_at_call 23
          refine (spec_l01Next _ _ _ (hW.t0 hks).src (by omega)).mono ?_
          rintro e' w5 ⟨r, rfl, ra, _, rb, hs5, hk5⟩
          have rc := rb (by omega)
          refine hK.out _ _ ⟨(ρ.1, r), (by simp only [put, e3]; rfl), fun q hj => by
                have n5 : L 5 = false := no_later hc hl (by kernel_rfl)
                have n6 : L 6 = false := no_later hc n5 (by kernel_rfl)
                have n9 : L 9 = false := no_later hc n6 (by kernel_rfl)
                match q, hj with
                | 0, _ => rfl
                | 1, _ => rfl
                | 2, _ => rfl
                | 3, _ => rfl
                | 4, hj => rw [hl] at hj; cases hj
                | 5, hj => rw [n5] at hj; cases hj
                | 6, hj => rw [n6] at hj; cases hj
                | 7, _ => rfl
                | 8, _ => rfl
                | 9, hj => rw [n9] at hj; cases hj
                | _ + 10, _ => rfl, hW.call (by omega) (by omega) (by omega) hks hk5 ((hW.t0 hks).keep hp hk5 hs5) ra rc⟩
        · have e2 : u 2 = .slice (some ⟨ρ.1, 0, none⟩) 3 3 := hu 2 (all_of hp' (by kernel_rfl))
          have e4 : u 4 = .int .i64 (ρ.2) := hu 4 (all_of hp' (by kernel_rfl))
          obtain ⟨ra, rb⟩ := hW.rr (all_of hp' (by kernel_rfl))
          have rn : ρ.2.toNat < 3 := by omega
          refine wpOp_go (E := True) rfl rfl (fun K' hK => ?_)
          go_simp
          refine hK.out _ _ ⟨ρ, (by simp only [put, e2, e4]; rfl), fun _ _ => rfl, hW.pure (by omega) (by omega) (by omega)⟩
        · have e5 : u 5 = .pointer (some ⟨ρ.1, ρ.2.toNat, none⟩) := hu 5 (all_of hp' (by kernel_rfl))
          obtain ⟨ra, rb⟩ := hW.rr (all_of (hc 5 (all_of hp' (by kernel_rfl))) (by kernel_rfl))
          have rn : ρ.2.toNat < 3 := by omega
          have hks : L 9 = false := no_later hc hl (by kernel_rfl)
          obtain ⟨hg', hga⟩ := hW.ar hks (all_of (hc 5 (all_of hp' (by kernel_rfl))) (by kernel_rfl))
          have hgx := hga.cell ρ.2.toNat (pickL3 0 30000 30001 ρ.2.toNat rn)
          refine wpOp_go (E := True) rfl rfl (fun K' hK => ?_)
          go_simp
          refine hK.out _ _ ⟨ρ, (by simp only [put, e5]; rfl), fun _ _ => rfl, hW.pure (by omega) (by omega) (by omega)⟩
        · have e1 : u 1 = .slice (some ⟨g2, 0, none⟩) ps.length d := hu 1 (all_of hp' (by kernel_rfl))
          have g1 : (0 : Int) < ps.length := by omega
          refine wpOp_go (E := True) rfl rfl (fun K' hK => ?_)
          go_simp
          refine hK.out _ _ ⟨ρ, (by simp only [put, e1]; rfl), fun _ _ => rfl, hW.pure (by omega) (by omega) (by omega)⟩
        · have e7 : u 7 = .pointer (some ⟨g2, 0, none⟩) := hu 7 (all_of hp' (by kernel_rfl))
          refine wpOp_go (E := True) rfl rfl (fun K' hK => ?_)
          go_simp
          refine hK.out _ _ ⟨ρ, (by simp only [put, e7]; rfl), fun _ _ => rfl, hW.pure (by omega) (by omega) (by omega)⟩
        · have hks : L 9 = false := hl
          have e8 : u 8 = .pointer (some ⟨g2, 4, none⟩) := hu 8 (all_of hp' (by kernel_rfl))
          have e6 : u 6 = .int .i64 (pick [0, 30000, 30001] ρ.2.toNat) := hu 6 (all_of hp' (by kernel_rfl))
          have hd := hW.t0 hks
          have harr := hd.arrP (by omega)
          obtain ⟨vv, hvv⟩ := harr.some_ (j := 4) (by omega)
          have hff := harr.free (j := 4) (by omega)
          refine wpOp_go (E := True) rfl rfl (fun K' hK => ?_)
          go_simp
          refine hK.out _ _ ⟨ρ, (by simp only [put, e8, e6]; rfl), fun _ _ => rfl, hW.store (by omega) (by omega) ((Keep.refl _ _).one _) (hd.setP (o := 4) hp hpq hpx (by omega) rfl)⟩
      · intro L ρ u wx hall hu hW
        obtain ⟨ra, rb⟩ := hW.rr (hall 4 (by show 4 < 10; omega))
        have hd := hW.t1 (hall 9 (by show 9 < 10; omega))
        exact (‹∀ (a : Act) (w_1 : World), Code.wp Tryz.prog _ _ a w_1 → _› : ∀ (a : Act) (w_1 : World), Code.wp Tryz.prog _ _ a w_1 → _) _ _ (l02a_tail w wx p w1.heap.size hp hd (by first | omega | (simp; omega)) (by first | omega | (simp; omega)) HNM0.out _ _ _ _ _ _ _ _ _ _ _ _ _ _ _ _ _ _ _ _ _ _ _ _ _ _ _ _ _ _ _ _ _ _ _ _ _ _ _ _ _ _ _ _ _ _ _ _ _ _ _ _ _ _ _ _ _ _ _ _ _ _ _ _ _ _ _ _ _ _ _ _ _ _ _ _ _ _ _ _ _ _ _ _ _ _ _ _ _ _ _ _ _ _ _ _ _ _ _ _ _ _ _ _ _)
  by_cases e2 : z = 2
  · subst e2
    have hD := HA3.out
    have hbX := hD.bX
    have hb0 := hD.b0
    have hy7 := hbX.lt; have cw7_0 := hbX.cell 0 rfl; have fw7_0 := hbX.frozen 0 rfl; have cw7_1 := hbX.cell 1 rfl; have fw7_1 := hbX.frozen 1 rfl
    have hy0 := hb0.lt; have cw0_0 := hb0.cell 0 rfl; have fw0_0 := hb0.frozen 0 rfl; have cw0_1 := hb0.cell 1 rfl; have fw0_1 := hb0.frozen 1 rfl
    have hsz := HA3.out.sz
    clear hbX hb0 hD
    go_wp2_with ((at_builtin; refine wp_app1x _ rfl (.tmp 54) (.tmp 58) 32 rfl (w.heap.size + 1) info_PpX Tryz.underlying32 rfl (by omega) (by omega) _ _ _ rfl (HA3.out.o2.alloc _) _ 1 1 (Pp.cells ⟨k, k, 1, 0, 1⟩) rfl rfl (by intro j u hu; match j, hu with | 0, hu => (simp [Pp.cells] at hu; subst hu; simp) | 1, hu => (simp [Pp.cells] at hu; subst hu; simp) | 2, hu => (simp [Pp.cells] at hu; subst hu; simp) | 3, hu => (simp [Pp.cells] at hu; subst hu; simp) | 4, hu => (simp [Pp.cells] at hu; subst hu; simp) | j + 5, hu => simp [Pp.cells] at hu) (by simp [Pp.cells, Value.oneCell']) (by omega) (by omega) (by simp; omega) ?_; intro v4 w4 hO4 hb4 hF4; obtain ⟨B', d', rfl, _, _, _⟩ := hO4.val; have HA5 := Lib.hid (DA.pipe hp (DA.below HA3.out (Below.alloc (Below.refl _ w3) (Nat.le_refl _) _)) hO4 hb4 hF4); have hbX := hF4.bxx (HA3.out.bX.below (Below.alloc (Below.refl w3.heap.size w3) (Nat.le_refl _) _) HA3.out.bX.lt) HA3.out.x2; have hb0 := Bx.below (HA3.out.b0.below (Below.alloc (Below.refl w3.heap.size w3) (Nat.le_refl _) _) HA3.out.b0.lt) hb4 (by omega); clear hO4 hb4 hF4 cw7_0 fw7_0 cw7_1 fw7_1 hy7 cw0_0 fw0_0 cw0_1 fw0_1 hy0; have hy7 := hbX.lt; have cw7_0 := hbX.cell 0 rfl; have fw7_0 := hbX.frozen 0 rfl; have cw7_1 := hbX.cell 1 rfl; have fw7_1 := hbX.frozen 1 rfl; have hy0 := hb0.lt; have cw0_0 := hb0.cell 0 rfl; have fw0_0 := hb0.frozen 0 rfl; have cw0_1 := hb0.cell 1 rfl; have fw0_1 := hb0.frozen 1 rfl; clear hbX hb0))
    refine bodyPost_ret (by simp [results, Tryz.results56, go_sem, cw0_0, cw0_1]; try rfl) rfl ?_
    have := l02a_post hp HA5.out (by omega) (by simp; omega) HNM0.out
    simpa using this
  by_cases e3 : z = 3
  · subst e3
    have hD := HA3.out
    have hbX := hD.bX
    have hb0 := hD.b0
    have hy7 := hbX.lt; have cw7_0 := hbX.cell 0 rfl; have fw7_0 := hbX.frozen 0 rfl; have cw7_1 := hbX.cell 1 rfl; have fw7_1 := hbX.frozen 1 rfl
    have hy0 := hb0.lt; have cw0_0 := hb0.cell 0 rfl; have fw0_0 := hb0.frozen 0 rfl; have cw0_1 := hb0.cell 1 rfl; have fw0_1 := hb0.frozen 1 rfl
    have hsz := HA3.out.sz
    clear hbX hb0 hD
    go_wp2_with ((at_builtin; refine wp_app1x _ rfl (.tmp 64) (.tmp 70) 32 rfl (w.heap.size + 1) info_PpX Tryz.underlying32 rfl (by omega) (by omega) _ _ _ rfl (HA3.out.o2.alloc _) _ 1 1 (Pp.cells ⟨k, ns.length, 1, 0, 1⟩) rfl rfl (by intro j u hu; match j, hu with | 0, hu => (simp [Pp.cells] at hu; subst hu; simp) | 1, hu => (simp [Pp.cells] at hu; subst hu; simp) | 2, hu => (simp [Pp.cells] at hu; subst hu; simp) | 3, hu => (simp [Pp.cells] at hu; subst hu; simp) | 4, hu => (simp [Pp.cells] at hu; subst hu; simp) | j + 5, hu => simp [Pp.cells] at hu) (by simp [Pp.cells, Value.oneCell']) (by omega) (by omega) (by simp; omega) ?_; intro v4 w4 hO4 hb4 hF4; obtain ⟨B', d', rfl, _, _, _⟩ := hO4.val; have HA5 := Lib.hid (DA.pipe hp (DA.below HA3.out (Below.alloc (Below.refl _ w3) (Nat.le_refl _) _)) hO4 hb4 hF4); have hbX := hF4.bxx (HA3.out.bX.below (Below.alloc (Below.refl w3.heap.size w3) (Nat.le_refl _) _) HA3.out.bX.lt) HA3.out.x2; have hb0 := Bx.below (HA3.out.b0.below (Below.alloc (Below.refl w3.heap.size w3) (Nat.le_refl _) _) HA3.out.b0.lt) hb4 (by omega); clear hO4 hb4 hF4 cw7_0 fw7_0 cw7_1 fw7_1 hy7 cw0_0 fw0_0 cw0_1 fw0_1 hy0; have hy7 := hbX.lt; have cw7_0 := hbX.cell 0 rfl; have fw7_0 := hbX.frozen 0 rfl; have cw7_1 := hbX.cell 1 rfl; have fw7_1 := hbX.frozen 1 rfl; have hy0 := hb0.lt; have cw0_0 := hb0.cell 0 rfl; have fw0_0 := hb0.frozen 0 rfl; have cw0_1 := hb0.cell 1 rfl; have fw0_1 := hb0.frozen 1 rfl; clear hbX hb0))
    refine bodyPost_ret (by simp [results, Tryz.results56, go_sem, cw0_0, cw0_1]; try rfl) rfl ?_
    have := l02a_post hp HA5.out (by omega) (by simp; omega) HNM0.out
    simpa using this
  by_cases e6 : z = 6
  · subst e6
    have hD := HA3.out
    have hbX := hD.bX
    have hb0 := hD.b0
    have hy7 := hbX.lt; have cw7_0 := hbX.cell 0 rfl; have fw7_0 := hbX.frozen 0 rfl; have cw7_1 := hbX.cell 1 rfl; have fw7_1 := hbX.frozen 1 rfl
    have hy0 := hb0.lt; have cw0_0 := hb0.cell 0 rfl; have fw0_0 := hb0.frozen 0 rfl; have cw0_1 := hb0.cell 1 rfl; have fw0_1 := hb0.frozen 1 rfl
    clear hbX hb0 hD
    have hsz := HA3.out.sz
    go_wp2
    refine bodyPost_ret (by simp [results, Tryz.results56, go_sem, cw0_0, cw0_1]; try rfl) rfl ?_
    exact l02a_post hp (DA.nil hp HA3.out) (by simp) (by omega) (by simp)
  have b0 : (z == 0) = false := by simpa using e0
  have b1 : (z == 1) = false := by simpa using e1
  have b2 : (z == 2) = false := by simpa using e2
  have b3 : (z == 3) = false := by simpa using e3
  have b4 : (z == 4) = false := by simpa using e4
  have b5 : (z == 5) = false := by simpa using e5
  have b6 : (z == 6) = false := by simpa using e6
  clear e0 e1 e2 e3 e4 e5 e6
  have hD := HA3.out
  have hbX := hD.bX
  have hb0 := hD.b0
  have hy7 := hbX.lt; have cw7_0 := hbX.cell 0 rfl; have fw7_0 := hbX.frozen 0 rfl; have cw7_1 := hbX.cell 1 rfl; have fw7_1 := hbX.frozen 1 rfl
  have hy0 := hb0.lt; have cw0_0 := hb0.cell 0 rfl; have fw0_0 := hb0.frozen 0 rfl; have cw0_1 := hb0.cell 1 rfl; have fw0_1 := hb0.frozen 1 rfl
  clear hbX hb0 hD
  have hsz := HA3.out.sz
  go_wp2
  refine bodyPost_ret (by simp [results, Tryz.results56, go_sem, cw0_0, cw0_1]; try rfl) rfl ?_
  exact l02a_post hp HA3.out (by omega) (by omega) HNM0.out
end Go.Proofs.YtbdacplndmnkhaaGreatDoor
