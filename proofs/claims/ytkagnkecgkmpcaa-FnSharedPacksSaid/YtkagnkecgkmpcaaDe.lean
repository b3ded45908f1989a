/- Drawn networks with levels. -/
import Derived.Test.YtkagnkecgkmpcaaDa
import Derived.Test.YtkagnkecgkmpcaaLI
namespace Go.Proofs.Ytkagnkecgkmpcaa
set_option linter.unusedVariables false
set_option linter.unusedSimpArgs false
open Go.RowKit
theorem NetAt.keep {S : Nat → Prop} {w w' : World} {A B : Option Addr} {N : Net} (h : NetAt w A B N) (hk : Keep S w w') (hA : ∀ b off, A = some ⟨b, off, none⟩ → ¬ S b) (hB : ∀ b off, B = some ⟨b, off, none⟩ → ¬ S b) : NetAt w' A B N :=
  ⟨h.nodes.keep hk hA, h.pipes.keep hk hB, h.ln, h.lp, h.nm⟩
/-- what goes around the loop of l18Draw: the network read, the list of the call's own -/
structure DL (w : World) (p X base : Nat) (A Bq : Option Addr) (c d : Nat) (N : Net) (u : Value) (l : List Int) (wr : World) : Prop where
  o : Own wr base 2 1 u l.length (l.map iV)
  net : NetAt wr A Bq N
  bA : ∀ b off, A = some ⟨b, off, none⟩ → w.heap.size < b ∧ b < base
  bB : ∀ b off, Bq = some ⟨b, off, none⟩ → w.heap.size < b ∧ b < base
  src : Src wr p
  kp : Keep (· = p) w wr
  b0 : Bx wr w.heap.size [.slice none 0 0, .slice none 0 0]
  bX : Bx wr X [.slice A N.nodes.length c, .slice Bq N.pipes.length d]
  sX : w.heap.size < X ∧ X < base
  bd : ∀ x ∈ l, -1000000000 ≤ x ∧ x ≤ 1000000000
  sz : base ≤ wr.heap.size
variable {w wr wr' : World} {p X base : Nat} {A Bq : Option Addr} {c d : Nat} {N : Net} {u u' : Value} {l : List Int}
theorem DL.keep (h : DL w p X base A Bq c d N u l wr) (hp : p < w.heap.size) (hk : Keep (· = p) wr wr') (hs : Src wr' p) : DL w p X base A Bq c d N u l wr' := by
  have hX := h.sX
  exact ⟨h.o.keepp hk (by omega), h.net.keep hk (fun b off e q => by have := (h.bA b off e).1; omega) (fun b off e q => by have := (h.bB b off e).1; omega), h.bA, h.bB, hs, h.kp.trans hk, h.b0.keep hk (by omega), h.bX.keep hk (by omega), h.sX, h.bd, Nat.le_trans h.sz hk.size⟩
theorem DL.below (h : DL w p X base A Bq c d N u l wr) (hb : Below wr.heap.size wr wr') : DL w p X base A Bq c d N u l wr' :=
  ⟨h.o.below hb (Nat.le_refl _), h.net.below hb, h.bA, h.bB, h.src.below hb, h.kp.trans (Keep.of_below _ hb), h.b0.below hb h.b0.lt, h.bX.below hb h.bX.lt, h.sX, h.bd, Nat.le_trans h.sz hb.size⟩
/-- a write to the list's memory alone -/
theorem DL.put {l' : List Int} (h : DL w p X base A Bq c d N u l wr) (hp : p < w.heap.size) (ho : Own wr' base 2 1 u' l'.length (l'.map iV)) (hb : Below base wr wr') (hl : ∀ x ∈ l', -1000000000 ≤ x ∧ x ≤ 1000000000) : DL w p X base A Bq c d N u' l' wr' := by
  have hX := h.sX
  have hk : Keep (fun k => base ≤ k) wr wr' := ⟨hb.os, hb.tape, hb.output, hb.size, fun k _ h2 => hb.block k (by omega)⟩
  refine ⟨ho, h.net.keep hk (fun b off e q => by have := (h.bA b off e).2; omega) (fun b off e q => by have := (h.bB b off e).2; omega), h.bA, h.bB, h.src.high hb (by omega), ?_, h.b0.below hb (by omega), h.bX.below hb hX.2, h.sX, hl, Nat.le_trans h.sz hb.size⟩
  exact ⟨hb.os.trans h.kp.os, hb.tape.trans h.kp.tape, hb.output.trans h.kp.output, Nat.le_trans h.kp.size hb.size, fun q h1 h2 => (hb.block q (by omega)).trans (h.kp.block q h1 h2)⟩
theorem DL.app {x : Int} (h : DL w p X base A Bq c d N u l wr) (hp : p < w.heap.size) (ho : Own wr' base 2 1 u' (l.length + 1) (l.map iV ++ [iV x])) (hb : Below base wr wr') (hx : -1000000000 ≤ x ∧ x ≤ 1000000000) : DL w p X base A Bq c d N u' (l ++ [x]) wr' :=
  h.put hp (by simpa using ho) hb (fun y hy => by
    rcases List.mem_append.1 hy with hy | hy
    · exact h.bd y hy
    · rw [List.mem_singleton.1 hy]; exact hx)
def DrewL (w : World) (p : Nat) (e : Ending) (w' : World) : Prop :=
  ∃ (A Bq Al : Option Addr) (c d cl : Nat) (N : Net) (l : List Int), e = .returned (.tuple #[netV A Bq N.nodes.length c N.pipes.length d, .slice Al l.length cl]) ∧ N.nodes.length ≤ c ∧ NetAt w' A Bq N ∧ Rd w' Al (l.map iV) ∧ l.length ≤ 8 ∧ (∀ x ∈ l, -1000000000 ≤ x ∧ x ≤ 1000000000) ∧ Src w' p ∧ Keep (· = p) w w' ∧ (∀ b off, A = some ⟨b, off, none⟩ → w.heap.size ≤ b) ∧ (∀ b off, Bq = some ⟨b, off, none⟩ → w.heap.size ≤ b) ∧ (∀ b off, Al = some ⟨b, off, none⟩ → w.heap.size ≤ b)
theorem dl_post {Al : Option Addr} {cl : Nat} (hp : p < w.heap.size) (h : DL w p X base A Bq c d N (.slice Al l.length cl) l wr) (hnc : N.nodes.length ≤ c) (hl : l.length ≤ 8) :
    DrewL w p (.returned (.tuple #[netV A Bq N.nodes.length c N.pipes.length d, .slice Al l.length cl])) ((wr.setCell ⟨w.heap.size, 0, none⟩ (.slice A N.nodes.length c)).setCell ⟨w.heap.size, 1, none⟩ (.slice Bq N.pipes.length d)) := by
  have hX := h.sX
  have hb0 := h.b0.lt
  have hsz := h.sz
  have hk : Keep (· = w.heap.size) wr ((wr.setCell ⟨w.heap.size, 0, none⟩ (.slice A N.nodes.length c)).setCell ⟨w.heap.size, 1, none⟩ (.slice Bq N.pipes.length d)) := ((Keep.refl _ _).one _).one _
  refine ⟨A, Bq, Al, c, d, cl, N, l, rfl, hnc, h.net.keep hk (fun b off e q => by have := (h.bA b off e).1; omega) (fun b off e q => by have := (h.bB b off e).1; omega), ?_, hl, h.bd, h.src.high (B := p + 1) (by (repeat' (first | (with_reducible exact Below.refl _ _) | (with_reducible assumption) | (with_reducible refine Below.alloc ?_ ?_ _) | (with_reducible refine Below.drew ?_) | (with_reducible refine Below.drewN' ?_ _) | (with_reducible refine Below.setCell ?_ ?_ _) | (refine Below.via ?_ (by with_reducible assumption) ?_) | (with_reducible refine Below.via ?_ (Wd.h _) ?_) | go_size))) (by omega), by have h1 := h.kp; (repeat' (first | (with_reducible exact Keep.refl _ _) | (with_reducible assumption) | (with_reducible refine Keep.alloc ?_ _) | (with_reducible refine Keep.drew ?_) | (with_reducible refine Keep.drewN ?_ _) | (refine Keep.trans ?_ (by with_reducible assumption)) | (refine Keep.via ?_ (by with_reducible assumption)) | (with_reducible refine Keep.new ?_ ?_ _) | go_size)), fun b off e => by have := (h.bA b off e).1; omega, fun b off e => by have := (h.bB b off e).1; omega, fun b off e => by have := World.ownsRow.lt h.o b (by rw [e]; rfl); omega⟩
  obtain ⟨A2, c2, h3, _, h4, _⟩ := ((h.o.set_below (a := ⟨w.heap.size, 0, none⟩) (by simp; omega) (.slice A N.nodes.length c)).set_below (a := ⟨w.heap.size, 1, none⟩) (by simp; omega) (.slice Bq N.pipes.length d)).val
  injection h3 with h3; subst h3; exact h4
set_option maxRecDepth 100000 in
set_option maxHeartbeats 8000000 in
theorem spec_l18Draw (p : Nat) (w : World) (h : Src w p) :
    Calls Try.prog 23 #[.pointer (some ⟨p, 0, none⟩)] w (DrewL w p) := by
  have hp := h.lt
  have HS := Lib.hid h
  clear h
  go_enter Try.func23, Try.ntmps23
  go_wp2_with fail
  refine (spec_l02DrawAny p _ (HS.out.below (by (repeat' (first | (with_reducible exact Below.refl _ _) | (with_reducible assumption) | (with_reducible refine Below.alloc ?_ ?_ _) | (with_reducible refine Below.drew ?_) | (with_reducible refine Below.drewN' ?_ _) | (with_reducible refine Below.setCell ?_ ?_ _) | (refine Below.via ?_ (by with_reducible assumption) ?_) | (with_reducible refine Below.via ?_ (Wd.h _) ?_) | go_size))))).mono ?_
  rintro e w1 ⟨A, Bq, c, d, N, rfl, hnc, hN, hn7, hq10, hsr, hk1, hbA, hbB⟩
  have HN1 := Lib.hid hN
  have HS1 := Lib.hid hsr
  have HK1 := Lib.hid (show Keep (· = p) w w1 by (repeat' (first | (with_reducible exact Keep.refl _ _) | (with_reducible assumption) | (with_reducible refine Keep.alloc ?_ _) | (with_reducible refine Keep.drew ?_) | (with_reducible refine Keep.drewN ?_ _) | (refine Keep.trans ?_ (by with_reducible assumption)) | (refine Keep.via ?_ (by with_reducible assumption)) | (with_reducible refine Keep.new ?_ ?_ _) | go_size)))
  have hbA : ∀ b off, A = some ⟨b, off, none⟩ → w.heap.size < b ∧ b < w1.heap.size + 1 := fun b off e => by have := hbA b off e; simp at this; omega
  have hbB : ∀ b off, Bq = some ⟨b, off, none⟩ → w.heap.size < b ∧ b < w1.heap.size + 1 := fun b off e => by have := hbB b off e; simp at this; omega
  (have hz1 := hk1.size; (try simp at hz1); have Ncw0_0 := hk1.cell (w.heap.size) (0) (by first | omega | (simp; done) | (simp; omega)) (by intro hq; (try simp only at hq); omega); have Nfw0_0 := hk1.frozen (w.heap.size) (0) (by first | omega | (simp; done) | (simp; omega)) (by intro hq; (try simp only at hq); omega); have Nhy0 : w.heap.size < w1.heap.size := (by omega); have Ncw0_1 := hk1.cell (w.heap.size) (1) (by first | omega | (simp; done) | (simp; omega)) (by intro hq; (try simp only at hq); omega); have Nfw0_1 := hk1.frozen (w.heap.size) (1) (by first | omega | (simp; done) | (simp; omega)) (by intro hq; (try simp only at hq); omega); simp [go_sem] at Ncw0_0 Nfw0_0 Ncw0_1 Nfw0_1; have cw0_0 := Ncw0_0; have fw0_0 := Nfw0_0; have cw0_1 := Ncw0_1; have fw0_1 := Nfw0_1; have hy0 := Nhy0; clear Ncw0_0 Nfw0_0 Ncw0_1 Nfw0_1 Nhy0)
  have HB0 := Lib.hid (show Bx w1 w.heap.size [.slice none 0 0, .slice none 0 0] from (bx2 (by first | exact hy0 | go_size) (by first | (with_reducible exact cw0_0) | go_cell_look | (simp [go_sem, hy0, cw0_0, fw0_0, cw0_1, fw0_1]; done) | (simp [go_sem]; done)) (by first | (with_reducible exact fw0_0) | (simp only [World.frozen?_setCell, fw0_0]; done) | (simp [go_sem, hy0, cw0_0, fw0_0, cw0_1, fw0_1]; done) | (simp [go_sem]; done)) (by first | (with_reducible exact cw0_1) | go_cell_look | (simp [go_sem, hy0, cw0_0, fw0_0, cw0_1, fw0_1]; done) | (simp [go_sem]; done)) (by first | (with_reducible exact fw0_1) | (simp only [World.frozen?_setCell, fw0_1]; done) | (simp [go_sem, hy0, cw0_0, fw0_0, cw0_1, fw0_1]; done) | (simp [go_sem]; done))))
  clear hN hsr hk1 hy0 cw0_0 fw0_0 cw0_1 fw0_1
  have h0 : DL w p w1.heap.size (w1.heap.size + 1) A Bq c d N (.slice (some ⟨w1.heap.size + 1, 0, none⟩) 0 0) [] ((w1.alloc (.cells #[.slice A N.nodes.length c, .slice Bq N.pipes.length d] 27)).alloc (.cells #[] 2)) := by
    have hb : Below w1.heap.size w1 ((w1.alloc (.cells #[.slice A N.nodes.length c, .slice Bq N.pipes.length d] 27)).alloc (.cells #[] 2)) := by (repeat' (first | (with_reducible exact Below.refl _ _) | (with_reducible assumption) | (with_reducible refine Below.alloc ?_ ?_ _) | (with_reducible refine Below.drew ?_) | (with_reducible refine Below.drewN' ?_ _) | (with_reducible refine Below.setCell ?_ ?_ _) | (refine Below.via ?_ (by with_reducible assumption) ?_) | (with_reducible refine Below.via ?_ (Wd.h _) ?_) | go_size))
    refine ⟨?_, HN1.out.below hb, hbA, hbB, HS1.out.below hb, HK1.out.trans (Keep.of_below _ hb), HB0.out.below hb HB0.out.lt, bx2 (by simp; omega) (by simp [go_sem]) (by simp [go_sem]) (by simp [go_sem]) (by simp [go_sem]), ⟨by omega, by omega⟩, by simp, by simp⟩
    simpa using Own.lit0 (w1.alloc (.cells #[.slice A N.nodes.length c, .slice Bq N.pipes.length d] 27)) (w1.heap.size + 1) 2 1 (by simp)
  have H0 := Lib.hid h0
  clear h0 HN1 HS1 HK1 HB0
  go_wp2_with fail
  go_loopw [5, 6] (fun u t wr => ∃ (k : Nat) (l : List Int), k ≤ N.nodes.length ∧ t = .int .i64 k ∧ l.length = k ∧ DL w p w1.heap.size (w1.heap.size + 1) A Bq c d N u l wr) (fun _ t _ => N.nodes.length - (intOf t).toNat)
  case atStart => exact ⟨0, [], by omega, rfl, rfl, H0.out⟩
  case round =>
    clear H0
    obtain ⟨k, l, hk, rfl, hkl, hI⟩ := hrel
    have HI := Lib.hid hI
    have hzr := hI.sz
    have hbX := hI.bX
    have hy7 := hbX.lt; have cw7_0 := hbX.cell 0 rfl; have fw7_0 := hbX.frozen 0 rfl; have cw7_1 := hbX.cell 1 rfl; have fw7_1 := hbX.frozen 1 rfl
    clear hbX hI
    by_cases hlt : k < N.nodes.length
    · have g1 : (k : Int) < N.nodes.length := by omega
      go_wp2_with fail
      refine (spec_l01Next p _ _ HI.out.src (by omega)).mono ?_
      rintro e w2 ⟨r, rfl, ra, _, rb, hs2, hk2⟩
      have HI2 := Lib.hid (HI.out.keep hp hk2 hs2)
      have rc := rb (by omega)
      have hz2 := hk2.size
      clear hs2 hk2 rb
      go_wp2_with ((at_builtin; refine wp_app1x _ rfl (.tmp 17) (.tmp 20) 28 rfl (w1.heap.size + 1) info_i64 Try.underlying28 rfl (by omega) (by omega) _ _ _ rfl (HI2.out.o.alloc _) _ 1 1 [iV r] rfl rfl (by intro j u hu; match j, hu with | 0, hu => (simp at hu; subst hu; simp) | j + 1, hu => simp at hu) (by simp [Value.oneCell']) (by omega) (by omega) (by simp; omega) ?_; intro v3 w3 hO3 hb3 hF3))
      have HI3 := Lib.hid (DL.app (HI2.out.below (Below.alloc (Below.refl _ w2) (Nat.le_refl _) _)) hp hO3 hb3 (by omega))
      clear hO3 hb3 hF3
      go_roundw
      case rel => exact ⟨k + 1, l ++ [r], by omega, by go_num, by simp; omega, HI3.out⟩
      case measure => simp [intOf]; omega
    · have g1 : ¬ (k : Int) < N.nodes.length := by omega
      obtain rfl : k = N.nodes.length := by omega
      go_wp2_with fail
      refine (spec_l01Next p _ _ HI.out.src (by omega)).mono ?_
      rintro e w2 ⟨z, rfl, za, _, zb, hs2, hk2⟩
      have HI2 := Lib.hid (HI.out.keep hp hk2 hs2)
      have zc := zb (by omega)
      have hz2 := hk2.size
      clear hs2 hk2 zb HI cw7_0 fw7_0 cw7_1 fw7_1 hy7
      by_cases e0 : z = 0
      · subst e0
        go_wp2_with ((at_builtin; refine wp_app1x _ rfl (.tmp 26) (.tmp 27) 28 rfl (w1.heap.size + 1) info_i64 Try.underlying28 rfl (by omega) (by omega) _ _ _ rfl (HI2.out.o.alloc _) _ 1 1 [iV 0] rfl rfl (by intro j u hu; match j, hu with | 0, hu => (simp at hu; subst hu; simp) | j + 1, hu => simp at hu) (by simp [Value.oneCell']) (by omega) (by omega) (by simp; omega) ?_; intro v3 w3 hO3 hb3 hF3; have HF := Lib.hid (DL.app (HI2.out.below (Below.alloc (Below.refl _ w2) (Nat.le_refl _) _)) hp hO3 hb3 (by omega)); clear hO3 hb3 hF3; obtain ⟨Al, cl, rfl, hcl, _, _⟩ := HF.out.o.val; have hbX := HF.out.bX; have hb0 := HF.out.b0; have hy7 := hbX.lt; have cw7_0 := hbX.cell 0 rfl; have fw7_0 := hbX.frozen 0 rfl; have cw7_1 := hbX.cell 1 rfl; have fw7_1 := hbX.frozen 1 rfl; have hy0 := hb0.lt; have cw0_0 := hb0.cell 0 rfl; have fw0_0 := hb0.frozen 0 rfl; have cw0_1 := hb0.cell 1 rfl; have fw0_1 := hb0.frozen 1 rfl; clear hbX hb0; have hsX := HF.out.sX))
        refine bodyPost_ret (by simp [results, Try.results23, go_sem, cw0_0, cw0_1]; try rfl) rfl ?_
        have := dl_post hp HF.out hnc (by simp; omega)
        simpa [hkl, netV] using this
      by_cases e1 : z = 1
      · subst e1
        by_cases h0 : N.nodes.length = 0
        · have g5 : ¬ (0 : Int) < N.nodes.length := by omega
          obtain ⟨Al, cl, rfl, hcl, _, _⟩ := HI2.out.o.val
          have hbX := HI2.out.bX
          have hb0 := HI2.out.b0
          have hy7 := hbX.lt; have cw7_0 := hbX.cell 0 rfl; have fw7_0 := hbX.frozen 0 rfl; have cw7_1 := hbX.cell 1 rfl; have fw7_1 := hbX.frozen 1 rfl
          have hy0 := hb0.lt; have cw0_0 := hb0.cell 0 rfl; have fw0_0 := hb0.frozen 0 rfl; have cw0_1 := hb0.cell 1 rfl; have fw0_1 := hb0.frozen 1 rfl
          clear hbX hb0
          have hsX := HI2.out.sX
          go_wp2
          refine bodyPost_ret (by simp [results, Try.results23, go_sem, cw0_0, cw0_1]; try rfl) rfl ?_
          have := dl_post hp HI2.out hnc (by omega)
          simpa [hkl, netV, h0] using this
        have g5 : (0 : Int) < N.nodes.length := by omega
        obtain ⟨g, c', hv, hg, hc', _⟩ := HI2.out.o.arr (by omega)
        subst hv
        go_wp2_with fail
        refine (spec_l01Next p _ _ (HI2.out.src.below (by (repeat' (first | (with_reducible exact Below.refl _ _) | (with_reducible assumption) | (with_reducible refine Below.alloc ?_ ?_ _) | (with_reducible refine Below.drew ?_) | (with_reducible refine Below.drewN' ?_ _) | (with_reducible refine Below.setCell ?_ ?_ _) | (refine Below.via ?_ (by with_reducible assumption) ?_) | (with_reducible refine Below.via ?_ (Wd.h _) ?_) | go_size)))) (by omega)).mono ?_
        rintro e w3 ⟨r, rfl, ra, _, rb, hs3, hk3⟩
        have rc := rb (by omega)
        have rn : r.toNat < 3 := by omega
        have hpb := pick_bd (lo := -1) (hi := 100000001) (by omega) (by omega) [-1, 100000000, 100000001] (by simp) r.toNat
        have hp2 : p < w2.heap.size := HI2.out.src.lt
        have hld := (hk3.cell w2.heap.size r.toNat (by simp) (by omega)).trans (litA3 w2 2 (-1) 100000000 100000001 r.toNat rn)
        have HI3 := Lib.hid ((HI2.out.below (Below.alloc (Below.refl _ w2) (Nat.le_refl _) _)).keep hp hk3 hs3)
        have hz3 := hk3.size
        obtain ⟨g', c2, hv, _, _, harr⟩ := HI3.out.o.arr (by omega)
        have harr : Arr w3 g (l.length * 1) (l.map iV) := by
          injection hv with hv; injection hv with hv; injection hv with hv; subst hv; exact harr
        clear hv hs3 hk3 rb
        obtain ⟨vv, hvv⟩ := harr.some_ (j := 0) (by omega)
        have hff := harr.free (j := 0) (by omega)
        have hgl := harr.lt
        have HF := Lib.hid (HI3.out.put (l' := l.set 0 (pick [-1, 100000000, 100000001] r.toNat)) (wr' := w3.setCell ⟨g, 0, none⟩ (.int .i64 (pick [-1, 100000000, 100000001] r.toNat))) hp (by
          have := HI3.out.o.set 0 (by simp; omega) (iV (pick [-1, 100000000, 100000001] r.toNat))
          rw [List.length_set, List.map_set]; exact this) (by (repeat' (first | (with_reducible exact Below.refl _ _) | (with_reducible assumption) | (with_reducible refine Below.alloc ?_ ?_ _) | (with_reducible refine Below.drew ?_) | (with_reducible refine Below.drewN' ?_ _) | (with_reducible refine Below.setCell ?_ ?_ _) | (refine Below.via ?_ (by with_reducible assumption) ?_) | (with_reducible refine Below.via ?_ (Wd.h _) ?_) | go_size))) (fun y hy => by
          rcases List.mem_or_eq_of_mem_set hy with h1 | h1
          · exact HI3.out.bd y h1
          · subst h1; omega))
        have hbX := HI3.out.bX
        have hb0 := HI3.out.b0
        have hy7 := hbX.lt; have cw7_0 := hbX.cell 0 rfl; have fw7_0 := hbX.frozen 0 rfl; have cw7_1 := hbX.cell 1 rfl; have fw7_1 := hbX.frozen 1 rfl
        have hy0 := hb0.lt; have cw0_0 := hb0.cell 0 rfl; have fw0_0 := hb0.frozen 0 rfl; have cw0_1 := hb0.cell 1 rfl; have fw0_1 := hb0.frozen 1 rfl
        clear hbX hb0
        have hsX := HI3.out.sX
        go_wp2
        refine bodyPost_ret (by simp [results, Try.results23, go_sem, cw0_0, cw0_1]; try rfl) rfl ?_
        have := dl_post hp (show DL w p w1.heap.size (w1.heap.size + 1) A Bq c d N (.slice (some ⟨g, 0, none⟩) (l.set 0 (pick [-1, 100000000, 100000001] r.toNat)).length c') (l.set 0 (pick [-1, 100000000, 100000001] r.toNat)) (w3.setCell ⟨g, 0, none⟩ (.int .i64 (pick [-1, 100000000, 100000001] r.toNat))) by simpa using HF.out) hnc (by simp; omega)
        simpa [hkl, netV] using this
      have b0 : (z == 0) = false := by simpa using e0
      have b1 : (z == 1) = false := by simpa using e1
      clear e0 e1
      have HF := HI2
      obtain ⟨Al, cl, rfl, hcl, _, _⟩ := HF.out.o.val
      have hbX := HF.out.bX
      have hb0 := HF.out.b0
      have hy7 := hbX.lt; have cw7_0 := hbX.cell 0 rfl; have fw7_0 := hbX.frozen 0 rfl; have cw7_1 := hbX.cell 1 rfl; have fw7_1 := hbX.frozen 1 rfl
      have hy0 := hb0.lt; have cw0_0 := hb0.cell 0 rfl; have fw0_0 := hb0.frozen 0 rfl; have cw0_1 := hb0.cell 1 rfl; have fw0_1 := hb0.frozen 1 rfl
      clear hbX hb0
      have hsX := HF.out.sX
      go_wp2
      refine bodyPost_ret (by simp [results, Try.results23, go_sem, cw0_0, cw0_1]; try rfl) rfl ?_
      have := dl_post hp HF.out hnc (by first | omega | (simp; omega))
      simpa [hkl, netV] using this
end Go.Proofs.Ytkagnkecgkmpcaa
