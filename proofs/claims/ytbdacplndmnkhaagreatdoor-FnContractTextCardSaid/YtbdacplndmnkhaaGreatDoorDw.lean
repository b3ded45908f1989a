/- Drawn networks that are valid. -/
import Derived.Test.YtbdacplndmnkhaaGreatDoorDn
namespace Go.Proofs.YtbdacplndmnkhaaGreatDoor
set_option linter.unusedVariables false
set_option linter.unusedSimpArgs false
open Go.RowKit
theorem info_NdX : (Tryz.prog.info? 98).map (fun i => (i.zero, i.size, i.bytes)) = some (some (.agg #[.string ⟨#[]⟩, .int .i64 0, .int .i64 0]), 3, 32) := by kernel_rfl
theorem info_PpX : (Tryz.prog.info? 102).map (fun i => (i.zero, i.size, i.bytes)) = some (some (.agg #[.int .i64 0, .int .i64 0, .int .i64 0, .int .i64 0, .int .i64 0]), 5, 40) := by kernel_rfl
theorem Own.keepp {w w' : World} {base p s n : Nat} {e : TypeId} {v : Value} {xs : List Value} (h : Own w base e s v n xs) (hk : Keep (· = p) w w') (hp : p < base) : Own w' base e s v n xs :=
  World.ownsRow.kept (row := some p) h ⟨hk.os, hk.tape, hk.output, hk.size, fun k h1 h2 => hk.block k h1 (by rintro rfl; exact h2 rfl)⟩ (Or.inr (h.ne (Or.inl hp)))
theorem Own.lower2 {w : World} {base base' : Nat} {e : TypeId} {s n : Nat} {v : Value} {xs : List Value} (h : Own w base e s v n xs) (hb : base' ≤ base) : Own w base' e s v n xs := by
  refine ⟨h.1, ?_⟩
  rcases h.2 with h | ⟨g, cap, cur, h1, h2, h3⟩
  · exact .inl h
  · exact .inr ⟨g, cap, cur, h1, Nat.le_trans hb h2, h3⟩
/-- two slices of the call's own, that grow: nodes and pipes -/
structure DI (w : World) (p B : Nat) (bx : List Value) (u v : Value) (ns : List Nd) (ps : List Pp) (wr : World) : Prop where
  o1 : Own wr (w.heap.size + B) 98 3 u ns.length (ns.flatMap Nd.cells)
  o2 : Own wr (w.heap.size + B) 102 5 v ps.length (ps.flatMap Pp.cells)
  ap : Apart u v
  s1 : ∀ x ∈ ns, x.sm
  s2 : ∀ x ∈ ps, x.sm
  src : Src wr p
  kp : Keep (· = p) w wr
  bx : Bx wr w.heap.size bx
  sz : w.heap.size + B ≤ wr.heap.size
variable {w wr wr' : World} {p B : Nat} {bx : List Value} {u v u' v' : Value} {ns : List Nd} {ps : List Pp}
theorem DI.keep (h : DI w p B bx u v ns ps wr) (hp : p < w.heap.size) (hk : Keep (· = p) wr wr') (hs : Src wr' p) : DI w p B bx u v ns ps wr' :=
  ⟨h.o1.keepp hk (by omega), h.o2.keepp hk (by omega), h.ap, h.s1, h.s2, hs, h.kp.trans hk, h.bx.keep hk (by omega), Nat.le_trans h.sz hk.size⟩
theorem DI.below (h : DI w p B bx u v ns ps wr) (hb : Below wr.heap.size wr wr') : DI w p B bx u v ns ps wr' :=
  ⟨h.o1.below hb (Nat.le_refl _), h.o2.below hb (Nat.le_refl _), h.ap, h.s1, h.s2, h.src.below hb, h.kp.trans (Keep.of_below _ hb), h.bx.below hb h.bx.lt, Nat.le_trans h.sz hb.size⟩
theorem DI.node (h : DI w p B bx u v ns ps wr) (hp : p < w.heap.size) (hB : 1 ≤ B) {x : Nd} (hx : x.sm) (ho : Own wr' (w.heap.size + B) 98 3 u' (ns.length + 1) (ns.flatMap Nd.cells ++ x.cells)) (hb : Below (w.heap.size + B) wr wr') (hf : Far wr wr' u u') : DI w p B bx u' v (ns ++ [x]) ps wr' := by
  refine ⟨by simpa using ho, hf.own h.o2 h.ap, hf.apart h.o2 h.ap, fun y hy => ?_, h.s2, h.src.high hb (by omega), ?_, h.bx.below hb (by omega), Nat.le_trans h.sz hb.size⟩
  · rcases List.mem_append.1 hy with hy | hy
    · exact h.s1 y hy
    · rw [List.mem_singleton.1 hy]; exact hx
  · exact ⟨hb.os.trans h.kp.os, hb.tape.trans h.kp.tape, hb.output.trans h.kp.output, Nat.le_trans h.kp.size hb.size, fun k h1 h2 => (hb.block k (by omega)).trans (h.kp.block k h1 h2)⟩
theorem DI.pipe (h : DI w p B bx u v ns ps wr) (hp : p < w.heap.size) (hB : 1 ≤ B) {x : Pp} (hx : x.sm) (ho : Own wr' (w.heap.size + B) 102 5 v' (ps.length + 1) (ps.flatMap Pp.cells ++ x.cells)) (hb : Below (w.heap.size + B) wr wr') (hf : Far wr wr' v v') : DI w p B bx u v' ns (ps ++ [x]) wr' := by
  refine ⟨hf.own h.o1 h.ap.symm, by simpa using ho, (hf.apart h.o1 h.ap.symm).symm, h.s1, fun y hy => ?_, h.src.high hb (by omega), ?_, h.bx.below hb (by omega), Nat.le_trans h.sz hb.size⟩
  · rcases List.mem_append.1 hy with hy | hy
    · exact h.s2 y hy
    · rw [List.mem_singleton.1 hy]; exact hx
  · exact ⟨hb.os.trans h.kp.os, hb.tape.trans h.kp.tape, hb.output.trans h.kp.output, Nat.le_trans h.kp.size hb.size, fun k h1 h2 => (hb.block k (by omega)).trans (h.kp.block k h1 h2)⟩
/-- a drawn network behind its call -/
def DrewN (w : World) (p lo hi hq : Nat) (e : Ending) (w' : World) : Prop :=
  ∃ (A Bq : Option Addr) (c d : Nat) (N : Net), e = .returned (netV A Bq N.nodes.length c N.pipes.length d) ∧ Own w' w.heap.size 98 3 (.slice A N.nodes.length c) N.nodes.length (N.nodes.flatMap Nd.cells) ∧ Own w' w.heap.size 102 5 (.slice Bq N.pipes.length d) N.pipes.length (N.pipes.flatMap Pp.cells) ∧ Apart (.slice A N.nodes.length c) (.slice Bq N.pipes.length d) ∧ (∀ x ∈ N.nodes, x.sm) ∧ (∀ x ∈ N.pipes, x.sm) ∧ lo ≤ N.nodes.length ∧ N.nodes.length ≤ hi ∧ N.pipes.length ≤ hq ∧ Src w' p ∧ Keep (· = p) w w'
set_option maxRecDepth 100000 in
set_option maxHeartbeats 8000000 in
theorem spec_l02Draw (p : Nat) (w : World) (h : Src w p) :
    Calls Tryz.prog 76 #[.pointer (some ⟨p, 0, none⟩)] w (DrewN w p 1 7 9) := by
  have hp := h.lt
  have HS := Lib.hid h
  clear h
  go_enter Tryz.func76, Tryz.ntmps76
  go_wp2_with fail
  refine (spec_l01Next p _ _ (HS.out.below (by (repeat' (first | (with_reducible exact Below.refl _ _) | (with_reducible assumption) | (with_reducible refine Below.alloc ?_ ?_ _) | (with_reducible refine Below.drew ?_) | (with_reducible refine Below.drewN' ?_ _) | (with_reducible refine Below.setCell ?_ ?_ _) | (refine Below.via ?_ (by with_reducible assumption) ?_) | (with_reducible refine Below.via ?_ (Wd.h _) ?_) | go_size)))) (by omega)).mono ?_
  rintro e w1 ⟨r1, rfl, ra1, _, rb1, hs1, hk1⟩
  have rc1 := rb1 (by omega)
  clear rb1
  have HS1 := Lib.hid hs1
  have HK1 := Lib.hid (show Keep (· = p) w w1 by (repeat' (first | (with_reducible exact Keep.refl _ _) | (with_reducible assumption) | (with_reducible refine Keep.alloc ?_ _) | (with_reducible refine Keep.drew ?_) | (with_reducible refine Keep.drewN ?_ _) | (refine Keep.trans ?_ (by with_reducible assumption)) | (refine Keep.via ?_ (by with_reducible assumption)) | (with_reducible refine Keep.new ?_ ?_ _) | go_size)))
  (have hz1 := hk1.size; (try simp at hz1); have Ncw0_0 := hk1.cell (w.heap.size) (0) (by first | omega | (simp; done) | (simp; omega)) (by intro hq; (try simp only at hq); omega); have Nfw0_0 := hk1.frozen (w.heap.size) (0) (by first | omega | (simp; done) | (simp; omega)) (by intro hq; (try simp only at hq); omega); have Nhy0 : w.heap.size < w1.heap.size := (by omega); have Ncw0_1 := hk1.cell (w.heap.size) (1) (by first | omega | (simp; done) | (simp; omega)) (by intro hq; (try simp only at hq); omega); have Nfw0_1 := hk1.frozen (w.heap.size) (1) (by first | omega | (simp; done) | (simp; omega)) (by intro hq; (try simp only at hq); omega); simp [go_sem] at Ncw0_0 Nfw0_0 Ncw0_1 Nfw0_1; have cw0_0 := Ncw0_0; have fw0_0 := Nfw0_0; have cw0_1 := Ncw0_1; have fw0_1 := Nfw0_1; have hy0 := Nhy0; clear Ncw0_0 Nfw0_0 Ncw0_1 Nfw0_1 Nhy0)
  have HB1 := Lib.hid (show Bx w1 w.heap.size [.slice none 0 0, .slice none 0 0] from (bx2 (by first | exact hy0 | go_size) (by first | (with_reducible exact cw0_0) | go_cell_look | (simp [go_sem, hy0, cw0_0, fw0_0, cw0_1, fw0_1]; done) | (simp [go_sem]; done)) (by first | (with_reducible exact fw0_0) | (simp only [World.frozen?_setCell, fw0_0]; done) | (simp [go_sem, hy0, cw0_0, fw0_0, cw0_1, fw0_1]; done) | (simp [go_sem]; done)) (by first | (with_reducible exact cw0_1) | go_cell_look | (simp [go_sem, hy0, cw0_0, fw0_0, cw0_1, fw0_1]; done) | (simp [go_sem]; done)) (by first | (with_reducible exact fw0_1) | (simp only [World.frozen?_setCell, fw0_1]; done) | (simp [go_sem, hy0, cw0_0, fw0_0, cw0_1, fw0_1]; done) | (simp [go_sem]; done))))
  clear hs1 hk1 hy0 cw0_0 fw0_0 cw0_1 fw0_1
  obtain ⟨cn, hcn⟩ : ∃ cn : Nat, 1 + r1 = (cn : Int) := ⟨(1 + r1).toNat, by omega⟩
  have hc1 : 1 ≤ cn := by omega
  have hc2 : cn ≤ 7 := by omega
  have h0 : DI w p 1 [.slice none 0 0, .slice none 0 0] (.slice (some ⟨w1.heap.size, 0, none⟩) 0 0) (.slice (some ⟨w1.heap.size + 1, 0, none⟩) 0 0) [] [] ((w1.alloc (.cells #[] 98)).alloc (.cells #[] 102)) := by
    have hb : Below w1.heap.size w1 ((w1.alloc (.cells #[] 98)).alloc (.cells #[] 102)) := by (repeat' (first | (with_reducible exact Below.refl _ _) | (with_reducible assumption) | (with_reducible refine Below.alloc ?_ ?_ _) | (with_reducible refine Below.drew ?_) | (with_reducible refine Below.drewN' ?_ _) | (with_reducible refine Below.setCell ?_ ?_ _) | (refine Below.via ?_ (by with_reducible assumption) ?_) | (with_reducible refine Below.via ?_ (Wd.h _) ?_) | go_size))
    refine ⟨?_, ?_, ?_, by simp, by simp, HS1.out.below hb, HK1.out.trans (Keep.of_below _ hb), HB1.out.below hb HB1.out.lt, by simp; omega⟩
    · simpa using (Own.lit0 w1 (w.heap.size + 1) 98 3 (by omega)).alloc (.cells #[] 102)
    · simpa using Own.lit0 (w1.alloc (.cells #[] 98)) (w.heap.size + 1) 102 5 (by simp; omega)
    · intro g h1 h2
      simp [Value.ownBlock] at h1 h2
      omega
  have H0 := Lib.hid h0
  clear h0
  go_wp2_with fail
  go_loopw [4, 5, 6] (fun u v t wr => ∃ (k : Nat) (ns : List Nd) (ps : List Pp), k ≤ cn ∧ t = .int .i64 k ∧ ns.length = k ∧ ps.length ≤ k ∧ DI w p 1 [.slice none 0 0, .slice none 0 0] u v ns ps wr) (fun _ _ t _ => cn - (intOf t).toNat)
  case atStart => exact ⟨0, [], [], by omega, rfl, rfl, by simp, H0.out⟩
  case round =>
    clear H0
    obtain ⟨k, ns, ps, hk, rfl, hkn, hkp, hI⟩ := hrel
    have HI := Lib.hid hI
    have hzr := hI.sz
    clear hI
    by_cases hlt : k < cn
    · have g1 : (k : Int) < cn := by omega
      go_wp2_with fail
      refine (spec_l02DrawNode p k _ HI.out.src (by omega) (by omega)).mono ?_
      rintro e w2 ⟨x, rfl, hx, hs2, hk2⟩
      have HI2 := Lib.hid (HI.out.keep hp hk2 hs2)
      have hz2 := hk2.size
      clear hs2
      by_cases hk0 : k = 0
      · have g2 : ¬ ((0 : Int) < k) := by omega
        go_wp2_with ((at_builtin; refine wp_app1x _ rfl (.tmp 19) (.tmp 23) 31 rfl (w.heap.size + 1) info_NdX Tryz.underlying31 rfl (by omega) (by omega) _ _ _ rfl (HI2.out.o1.alloc _) _ 1 1 x.cells rfl rfl (by intro j u hu; match j, hu with  | 0, hu => (simp [Nd.cells] at hu; subst hu; simp) | 1, hu => (simp [Nd.cells] at hu; subst hu; simp) | 2, hu => (simp [Nd.cells] at hu; subst hu; simp) | j + 3, hu => simp [Nd.cells] at hu) (by simp [Nd.cells, Value.oneCell']) (by omega) (by omega) (by simp; omega) ?_; intro v3 w3 hO3 hb3 hF3))
        have HI3 := Lib.hid (DI.node (HI2.out.below (Below.alloc (Below.refl _ w2) (Nat.le_refl _) _)) hp (by omega) hx hO3 hb3 hF3)
        have hz3 := hb3.size
        (try simp at hz3)
        clear hO3 hF3 hb3
        go_roundw
        case rel => exact ⟨k + 1, ns ++ [x], ps, by omega, by go_num, by simp; omega, by omega, HI3.out⟩
        case measure => simp [intOf]; omega
      · have g2 : (0 : Int) < k := by omega
        go_wp2_with ((at_builtin; refine wp_app1x _ rfl (.tmp 19) (.tmp 23) 31 rfl (w.heap.size + 1) info_NdX Tryz.underlying31 rfl (by omega) (by omega) _ _ _ rfl (HI2.out.o1.alloc _) _ 1 1 x.cells rfl rfl (by intro j u hu; match j, hu with  | 0, hu => (simp [Nd.cells] at hu; subst hu; simp) | 1, hu => (simp [Nd.cells] at hu; subst hu; simp) | 2, hu => (simp [Nd.cells] at hu; subst hu; simp) | j + 3, hu => simp [Nd.cells] at hu) (by simp [Nd.cells, Value.oneCell']) (by omega) (by omega) (by simp; omega) ?_; intro v3 w3 hO3 hb3 hF3))
        have HI3 := Lib.hid (DI.node (HI2.out.below (Below.alloc (Below.refl _ w2) (Nat.le_refl _) _)) hp (by omega) hx hO3 hb3 hF3)
        have hz3 := hb3.size
        (try simp at hz3)
        clear hO3 hF3 hb3
        refine (spec_l01Next p _ _ HI3.out.src (by omega)).mono ?_
        rintro e w4 ⟨r4, rfl, ra4, _, rb4, hs4, hk4⟩
        have HI4 := Lib.hid (HI3.out.keep hp hk4 hs4)
        have rc4 := rb4 (by omega)
        have hz4 := hk4.size
        clear hs4 hk4 rb4
        by_cases e4 : r4 = 0
        · have g3 : ¬ (0 : Int) < r4 := by omega
          go_wp2
          go_roundw
          case rel => exact ⟨k + 1, ns ++ [x], ps, by omega, by go_num, by simp; omega, by omega, HI4.out⟩
          case measure => simp [intOf]; omega
        · have g3 : (0 : Int) < r4 := by omega
          go_wp2_with fail
          refine (spec_l01Next p _ _ HI4.out.src (by omega)).mono ?_
          rintro e w5 ⟨r5, rfl, ra5, rz5, rb5, hs5, hk5⟩
          have HI5 := Lib.hid (HI4.out.keep hp hk5 hs5)
          have rc5 : r5 ≤ 7 := by by_cases h1 : (k : Int) ≤ 1; (have := rz5 h1; omega); (have := rb5 (by omega); omega)
          have hz5 := hk5.size
          clear hs5 hk5 rb5 rz5
          go_wp2_with fail
          refine (spec_l02DrawPipe p _ _ _ HI5.out.src (by omega) (by omega)).mono ?_
          rintro e w6 ⟨y, rfl, hy, hs6, hk6⟩
          have HI6 := Lib.hid (HI5.out.keep hp hk6 hs6)
          have hz6 := hk6.size
          clear hs6 hk6
          go_wp2_with ((at_builtin; refine wp_app1x _ rfl (.tmp 32) (.tmp 39) 32 rfl (w.heap.size + 1) info_PpX Tryz.underlying32 rfl (by omega) (by omega) _ _ _ rfl (HI6.out.o2.alloc _) _ 1 1 y.cells rfl rfl (by intro j u hu; match j, hu with  | 0, hu => (simp [Pp.cells] at hu; subst hu; simp) | 1, hu => (simp [Pp.cells] at hu; subst hu; simp) | 2, hu => (simp [Pp.cells] at hu; subst hu; simp) | 3, hu => (simp [Pp.cells] at hu; subst hu; simp) | 4, hu => (simp [Pp.cells] at hu; subst hu; simp) | j + 5, hu => simp [Pp.cells] at hu) (by simp [Pp.cells, Value.oneCell']) (by omega) (by omega) (by simp; omega) ?_; intro v7 w7 hO7 hb7 hF7))
          have HI7 := Lib.hid (DI.pipe (HI6.out.below (Below.alloc (Below.refl _ w6) (Nat.le_refl _) _)) hp (by omega) hy hO7 hb7 hF7)
          clear hO7 hF7 hb7
          go_roundw
          case rel => exact ⟨k + 1, ns ++ [x], ps ++ [y], by omega, by go_num, by simp; omega, by simp; omega, HI7.out⟩
          case measure => simp [intOf]; omega
    · have g1 : ¬ (k : Int) < cn := by omega
      obtain rfl : k = cn := by omega
      go_wp2_with fail
      refine (spec_l01Next p _ _ HI.out.src (by omega)).mono ?_
      rintro e w2 ⟨r6, rfl, ra6, _, rb6, hs2, hk2⟩
      have HI2 := Lib.hid (HI.out.keep hp hk2 hs2)
      have rc6 := rb6 (by omega)
      obtain ⟨q0, hq0⟩ : ∃ q0 : Nat, r6 = (q0 : Int) := ⟨r6.toNat, by omega⟩
      subst hq0
      clear hs2 hk2 rb6 HI
      go_wp2_with fail
      go_loopw [5, 7, 8] (fun v t z wx => ∃ (q : Nat) (qs : List Pp), t = .int .i64 q ∧ qs.length + q ≤ k + 2 ∧ q ≤ 2 ∧ DI w p 1 [.slice none 0 0, .slice none 0 0] u4 v ns qs wx) (fun _ t _ _ => (intOf t).toNat)
      case atStart => exact ⟨q0, ps, rfl, by omega, by omega, HI2.out⟩
      case round =>
        clear HI2
        obtain ⟨q, qs, rfl, hq, hq2, hJ⟩ := hrel
        have HJ := Lib.hid hJ
        have hzj := hJ.sz
        clear hJ
        by_cases h1 : q = 0
        · have g3 : ¬ (0 : Int) < q := by omega
          have HF := Lib.hid (HJ.out)
          obtain ⟨A, c, rfl, hcn', _, _⟩ := HF.out.o1.val
          obtain ⟨Bq, d, rfl, _, _, _⟩ := HF.out.o2.val
          have hbx := HF.out.bx
          have hy0 := hbx.lt; have cw0_0 := hbx.cell 0 rfl; have fw0_0 := hbx.frozen 0 rfl; have cw0_1 := hbx.cell 1 rfl; have fw0_1 := hbx.frozen 1 rfl
          clear hbx
          go_wp2
          (first | (refine bodyPost_ret (by simp [results, Tryz.results76, go_sem, cw0_0, cw0_1]; try rfl) rfl ?_) | (refine bodyPost_ret (by simp [results, Tryz.results76, go_sem]; try rfl) rfl ?_))
          refine ⟨A, Bq, c, d, ⟨ns, qs⟩, by first | (simp [netV, hkn]; done) | (simp [netV, hkn]; omega), (((HF.out.o1.set_below (by simp) _).set_below (by simp) _).lower2 (by omega)), (((HF.out.o2.set_below (by simp) _).set_below (by simp) _).lower2 (by omega)), HF.out.ap, HF.out.s1, HF.out.s2, by dsimp only; omega, by dsimp only; omega, by dsimp only; omega, HF.out.src.high (B := p + 1) (by (repeat' (first | (with_reducible exact Below.refl _ _) | (with_reducible assumption) | (with_reducible refine Below.alloc ?_ ?_ _) | (with_reducible refine Below.drew ?_) | (with_reducible refine Below.drewN' ?_ _) | (with_reducible refine Below.setCell ?_ ?_ _) | (refine Below.via ?_ (by with_reducible assumption) ?_) | (with_reducible refine Below.via ?_ (Wd.h _) ?_) | go_size))) (by omega), by have h1 := HF.out.kp; (repeat' (first | (with_reducible exact Keep.refl _ _) | (with_reducible assumption) | (with_reducible refine Keep.alloc ?_ _) | (with_reducible refine Keep.drew ?_) | (with_reducible refine Keep.drewN ?_ _) | (refine Keep.trans ?_ (by with_reducible assumption)) | (refine Keep.via ?_ (by with_reducible assumption)) | (with_reducible refine Keep.new ?_ ?_ _) | go_size))⟩
        by_cases h2 : k = 1
        · have g3 : (0 : Int) < q := by omega
          have g4 : ¬ (1 : Int) < k := by omega
          have HF := Lib.hid (HJ.out)
          obtain ⟨A, c, rfl, hcn', _, _⟩ := HF.out.o1.val
          obtain ⟨Bq, d, rfl, _, _, _⟩ := HF.out.o2.val
          have hbx := HF.out.bx
          have hy0 := hbx.lt; have cw0_0 := hbx.cell 0 rfl; have fw0_0 := hbx.frozen 0 rfl; have cw0_1 := hbx.cell 1 rfl; have fw0_1 := hbx.frozen 1 rfl
          clear hbx
          go_wp2
          (first | (refine bodyPost_ret (by simp [results, Tryz.results76, go_sem, cw0_0, cw0_1]; try rfl) rfl ?_) | (refine bodyPost_ret (by simp [results, Tryz.results76, go_sem]; try rfl) rfl ?_))
          refine ⟨A, Bq, c, d, ⟨ns, qs⟩, by first | (simp [netV, hkn]; done) | (simp [netV, hkn]; omega), (((HF.out.o1.set_below (by simp) _).set_below (by simp) _).lower2 (by omega)), (((HF.out.o2.set_below (by simp) _).set_below (by simp) _).lower2 (by omega)), HF.out.ap, HF.out.s1, HF.out.s2, by dsimp only; omega, by dsimp only; omega, by dsimp only; omega, HF.out.src.high (B := p + 1) (by (repeat' (first | (with_reducible exact Below.refl _ _) | (with_reducible assumption) | (with_reducible refine Below.alloc ?_ ?_ _) | (with_reducible refine Below.drew ?_) | (with_reducible refine Below.drewN' ?_ _) | (with_reducible refine Below.setCell ?_ ?_ _) | (refine Below.via ?_ (by with_reducible assumption) ?_) | (with_reducible refine Below.via ?_ (Wd.h _) ?_) | go_size))) (by omega), by have h1 := HF.out.kp; (repeat' (first | (with_reducible exact Keep.refl _ _) | (with_reducible assumption) | (with_reducible refine Keep.alloc ?_ _) | (with_reducible refine Keep.drew ?_) | (with_reducible refine Keep.drewN ?_ _) | (refine Keep.trans ?_ (by with_reducible assumption)) | (refine Keep.via ?_ (by with_reducible assumption)) | (with_reducible refine Keep.new ?_ ?_ _) | go_size))⟩
        have g3 : (0 : Int) < q := by omega
        have g4 : (1 : Int) < k := by omega
        go_wp2_with fail
        refine (spec_l01Next p _ _ HJ.out.src (by omega)).mono ?_
        rintro e w4 ⟨r4, rfl, ra4, _, rb4, hs4, hk4⟩
        have HI4 := Lib.hid (HJ.out.keep hp hk4 hs4)
        have rc4 := rb4 (by omega)
        have hz4 := hk4.size
        clear hs4 hk4 rb4
        go_wp2_with fail
        refine (spec_l01Next p _ _ HI4.out.src (by omega)).mono ?_
        rintro e w5 ⟨r5, rfl, ra5, rz5, rb5, hs5, hk5⟩
        have HI5 := Lib.hid (HI4.out.keep hp hk5 hs5)
        have rc5 : r5 ≤ 7 := by by_cases h1 : (k : Int) - 1 ≤ 1; (have := rz5 h1; omega); (have := rb5 (by omega); omega)
        have hz5 := hk5.size
        have m1 := Int.tmod_lt_of_pos (r4 + 1 + r5) (show (0 : Int) < k by omega)
        have m2 := Int.tmod_nonneg (k : Int) (show (0 : Int) ≤ r4 + 1 + r5 by omega)
        have m3 : Int.tmod (r4 + 1 + r5) k = (r4 + 1 + r5) % k := Int.tmod_eq_emod_of_nonneg (by omega)
        clear hs5 hk5 rb5 rz5
        go_wp2_with fail
        refine (spec_l02DrawPipe p _ _ _ HI5.out.src (by omega) (by omega)).mono ?_
        rintro e w6 ⟨y, rfl, hy, hs6, hk6⟩
        have HI6 := Lib.hid (HI5.out.keep hp hk6 hs6)
        have hz6 := hk6.size
        clear hs6 hk6
        go_wp2_with ((at_builtin; refine wp_app1x _ rfl (.tmp 54) (.tmp 67) 32 rfl (w.heap.size + 1) info_PpX Tryz.underlying32 rfl (by omega) (by omega) _ _ _ rfl (HI6.out.o2.alloc _) _ 1 1 y.cells rfl rfl (by intro j u hu; match j, hu with  | 0, hu => (simp [Pp.cells] at hu; subst hu; simp) | 1, hu => (simp [Pp.cells] at hu; subst hu; simp) | 2, hu => (simp [Pp.cells] at hu; subst hu; simp) | 3, hu => (simp [Pp.cells] at hu; subst hu; simp) | 4, hu => (simp [Pp.cells] at hu; subst hu; simp) | j + 5, hu => simp [Pp.cells] at hu) (by simp [Pp.cells, Value.oneCell']) (by omega) (by omega) (by simp; omega) ?_; intro v7 w7 hO7 hb7 hF7))
        have HI7 := Lib.hid (DI.pipe (HI6.out.below (Below.alloc (Below.refl _ w6) (Nat.le_refl _) _)) hp (by omega) hy hO7 hb7 hF7)
        clear hO7 hF7 hb7
        go_roundw
        case rel => exact ⟨q - 1, qs ++ [y], by go_num, by simp; omega, by omega, HI7.out⟩
        case measure => simp [intOf]; omega
end Go.Proofs.YtbdacplndmnkhaaGreatDoor
