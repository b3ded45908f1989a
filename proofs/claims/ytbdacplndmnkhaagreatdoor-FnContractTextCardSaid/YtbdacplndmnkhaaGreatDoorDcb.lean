/- A drawn network and a book. -/
import Derived.Test.YtbdacplndmnkhaaGreatDoorDcn
import Derived.Test.YtbdacplndmnkhaaGreatDoorBk
namespace Go.Proofs.YtbdacplndmnkhaaGreatDoor
set_option linter.unusedVariables false
set_option linter.unusedSimpArgs false
open Go.RowKit
theorem info_CtrX : (Tryz.prog.info? 25).map (fun i => (i.zero, i.size, i.bytes)) = some (some (.agg #[.int .i64 0, .int .i64 0, .int .i64 0, .int .i64 0, .int .i64 0, .int .i64 0, .int .i64 0, .int .i64 0]), 8, 64) := by kernel_rfl
theorem cell_newC (w : World) (cs : Array Value) (t : TypeId) (n k : Nat) (v : Value) (h : n = w.heap.size) (hv : cs[k]? = some v) : (w.alloc (.cells cs t)).cell? ⟨n, k, none⟩ = some v := by subst h; simpa using hv
def CtSm (l : List Ctr) : Prop := ∀ x ∈ l, x.sm
theorem CtSm.snoc {l : List Ctr} {y : Ctr} (h : CtSm l) (hy : y.sm) : CtSm (l ++ [y]) := fun x hx => by
  rcases List.mem_append.1 hx with h1 | h1
  · exact h x h1
  · rw [List.mem_singleton.1 h1]; exact hy
def CtrsF (xs : List Value) (n : Nat) : Prop := ∃ l : List Ctr, xs = l.flatMap Ctr.cells ∧ n = l.length ∧ CtSm l ∧ n ≤ 33
/-- what l20Draw hands back: a network, a book, and where they lie -/
def DrewK (w : World) (p : Nat) (e : Ending) (w' : World) : Prop :=
  ∃ (A Bq Al : Option Addr) (c d cl n : Nat) (N : Net) (xs : List Value), e = .returned (.tuple #[netV A Bq N.nodes.length c N.pipes.length d, .slice Al n cl]) ∧ CtrsF xs n ∧ N.nodes.length ≤ c ∧ NetAt w' A Bq N ∧ Rd w' Al xs ∧ n ≤ 128 ∧ Src w' p ∧ Keep (· = p) w w' ∧ (∀ b off, A = some ⟨b, off, none⟩ → w.heap.size ≤ b) ∧ (∀ b off, Bq = some ⟨b, off, none⟩ → w.heap.size ≤ b) ∧ (∀ b off, Al = some ⟨b, off, none⟩ → w.heap.size ≤ b) ∧ (∀ b off, A = some ⟨b, off, none⟩ → b < w'.heap.size) ∧ (∀ b off, Bq = some ⟨b, off, none⟩ → b < w'.heap.size) ∧ (∀ b off, Al = some ⟨b, off, none⟩ → b < w'.heap.size)
theorem dg_postK {w wr : World} {p X base n c d : Nat} {A Bq : Option Addr} {N : Net} {e : TypeId} {s : Nat} {xs : List Value} {Al : Option Addr} {cl : Nat} (hp : p < w.heap.size) (h : DG w p X base A Bq c d N e s (.slice Al n cl) n xs wr) (hf : CtrsF xs n) (hnc : N.nodes.length ≤ c) (hl : n ≤ 128) :
    DrewK w p (.returned (.tuple #[netV A Bq N.nodes.length c N.pipes.length d, .slice Al n cl])) ((wr.setCell ⟨w.heap.size, 0, none⟩ (.slice A N.nodes.length c)).setCell ⟨w.heap.size, 1, none⟩ (.slice Bq N.pipes.length d)) := by
  have hX := h.sX
  have hb0 := h.b0.lt
  have hsz := h.sz
  have hk : Keep (· = w.heap.size) wr ((wr.setCell ⟨w.heap.size, 0, none⟩ (.slice A N.nodes.length c)).setCell ⟨w.heap.size, 1, none⟩ (.slice Bq N.pipes.length d)) := ((Keep.refl _ _).one _).one _
  refine ⟨A, Bq, Al, c, d, cl, n, N, xs, rfl, hf, hnc, h.net.keepC hk (fun b off e q => by have := (h.bA b off e).1; omega) (fun b off e q => by have := (h.bB b off e).1; omega), ?_, hl, h.src.high (B := p + 1) (by (repeat' (first | (with_reducible exact Below.refl _ _) | (with_reducible assumption) | (with_reducible refine Below.alloc ?_ ?_ _) | (with_reducible refine Below.drew ?_) | (with_reducible refine Below.drewN' ?_ _) | (with_reducible refine Below.setCell ?_ ?_ _) | (refine Below.via ?_ (by with_reducible assumption) ?_) | (with_reducible refine Below.via ?_ (Wd.h _) ?_) | go_size))) (by omega), by have h1 := h.kp; (repeat' (first | (with_reducible exact Keep.refl _ _) | (with_reducible assumption) | (with_reducible refine Keep.alloc ?_ _) | (with_reducible refine Keep.drew ?_) | (with_reducible refine Keep.drewN ?_ _) | (refine Keep.trans ?_ (by with_reducible assumption)) | (refine Keep.via ?_ (by with_reducible assumption)) | (with_reducible refine Keep.new ?_ ?_ _) | go_size)), fun b off e => by have := (h.bA b off e).1; omega, fun b off e => by have := (h.bB b off e).1; omega, fun b off e => by have := World.ownsRow.lt h.o b (by rw [e]; rfl); omega, fun b off e => by have := (h.bA b off e).2; simp; omega, fun b off e => by have := (h.bB b off e).2; simp; omega, fun b off e => by have := World.ownsRow.lt h.o b (by rw [e]; rfl); simp; omega⟩
  exact ((h.o.set_below (a := ⟨w.heap.size, 0, none⟩) (by simp; omega) (.slice A N.nodes.length c)).set_below (a := ⟨w.heap.size, 1, none⟩) (by simp; omega) (.slice Bq N.pipes.length d)).rdv.1
def lenOf : Value → Nat
  | .slice _ n _ => n
  | _ => 0
set_option maxRecDepth 100000 in
set_option maxHeartbeats 8000000 in
theorem spec_l20Draw (p : Nat) (w : World) (h : Src w p) :
    Calls Tryz.prog 27 #[.pointer (some ⟨p, 0, none⟩)] w (DrewK w p) := by
  have hp := h.lt
  have HS := Lib.hid h
  clear h
  go_enter Tryz.func27, Tryz.ntmps27
  go_wp2_with fail
  have HB0 := Lib.hid (show Bx (w.alloc (.cells #[.slice none 0 0, .slice none 0 0] 34)) w.heap.size [.slice none 0 0, .slice none 0 0] from (bx2 (by first | exact hy0 | go_size) (by first | (with_reducible exact cw0_0) | go_cell_look | (simp [go_sem, hy0, cw0_0, fw0_0, cw0_1, fw0_1]; done) | (simp [go_sem]; done)) (by first | (with_reducible exact fw0_0) | (simp only [World.frozen?_setCell, fw0_0]; done) | (simp [go_sem, hy0, cw0_0, fw0_0, cw0_1, fw0_1]; done) | (simp [go_sem]; done)) (by first | (with_reducible exact cw0_1) | go_cell_look | (simp [go_sem, hy0, cw0_0, fw0_0, cw0_1, fw0_1]; done) | (simp [go_sem]; done)) (by first | (with_reducible exact fw0_1) | (simp only [World.frozen?_setCell, fw0_1]; done) | (simp [go_sem, hy0, cw0_0, fw0_0, cw0_1, fw0_1]; done) | (simp [go_sem]; done))))
  refine (spec_l05DrawChord p _ (HS.out.below (by (repeat' (first | (with_reducible exact Below.refl _ _) | (with_reducible assumption) | (with_reducible refine Below.alloc ?_ ?_ _) | (with_reducible refine Below.drew ?_) | (with_reducible refine Below.drewN' ?_ _) | (with_reducible refine Below.setCell ?_ ?_ _) | (refine Below.via ?_ (by with_reducible assumption) ?_) | (with_reducible refine Below.via ?_ (Wd.h _) ?_) | go_size))))).mono ?_
  rintro e w1 ⟨A, Bq, c, d, N, x0, rfl, hD⟩
  have hz1 := hD.kp.size
  simp at hz1
  have hnc := hD.nc
  have hnl := hD.nl
  have hb2 : Below w1.heap.size w1 ((w1.alloc (.cells #[.slice A N.nodes.length c, .slice Bq N.pipes.length d] 34)).alloc (.cells #[] 25)) := by (repeat' (first | (with_reducible exact Below.refl _ _) | (with_reducible assumption) | (with_reducible refine Below.alloc ?_ ?_ _) | (with_reducible refine Below.drew ?_) | (with_reducible refine Below.drewN' ?_ _) | (with_reducible refine Below.setCell ?_ ?_ _) | (refine Below.via ?_ (by with_reducible assumption) ?_) | (with_reducible refine Below.via ?_ (Wd.h _) ?_) | go_size))
  have H0 := Lib.hid (show DG w p w1.heap.size (w1.heap.size + 1) A Bq c d N 25 8 (.slice (some ⟨w1.heap.size + 1, 0, none⟩) 0 0) 0 [] ((w1.alloc (.cells #[.slice A N.nodes.length c, .slice Bq N.pipes.length d] 34)).alloc (.cells #[] 25)) from
    ⟨by simpa using Own.lit0 (w1.alloc (.cells #[.slice A N.nodes.length c, .slice Bq N.pipes.length d] 34)) (w1.heap.size + 1) 25 8 (by simp), hD.net.below hb2,
     fun b off e => by have := World.ownsRow.lt hD.o1 b (by rw [e]; rfl); simp at this; omega, fun b off e => by have := World.ownsRow.lt hD.o2 b (by rw [e]; rfl); simp at this; omega,
     hD.src.below hb2, (show Keep (· = p) w w1 by have h1 := hD.kp; (repeat' (first | (with_reducible exact Keep.refl _ _) | (with_reducible assumption) | (with_reducible refine Keep.alloc ?_ _) | (with_reducible refine Keep.drew ?_) | (with_reducible refine Keep.drewN ?_ _) | (refine Keep.trans ?_ (by with_reducible assumption)) | (refine Keep.via ?_ (by with_reducible assumption)) | (with_reducible refine Keep.new ?_ ?_ _) | go_size))).trans (Keep.of_below _ hb2), (HB0.out.keep hD.kp (by omega)).below hb2 (by have := (HB0.out.keep hD.kp (by omega)).lt; omega),
     (show Bx (w1.alloc (.cells #[.slice A N.nodes.length c, .slice Bq N.pipes.length d] 34)) w1.heap.size [.slice A N.nodes.length c, .slice Bq N.pipes.length d] from bx2 (by simp) (by simp) (by simp) (by simp) (by simp)).below (Below.alloc (Below.refl _ _) (Nat.le_refl _) _) (by simp), ⟨by omega, by omega⟩, by simp⟩)
  clear hD hb2 HB0
  go_wp2_with fail
  refine (spec_l01Next p _ _ H0.out.src (by omega)).mono ?_
  rintro e w2 ⟨r2, rfl, ra2, _, rb2, hs2, hk2⟩
  have rc2 := rb2 (by omega)
  have H2 := Lib.hid (H0.out.keep hp hk2 hs2)
  obtain ⟨q0, hq0⟩ : ∃ q0 : Nat, r2 = q0 := ⟨r2.toNat, by omega⟩
  subst hq0
  clear hs2 hk2 rb2 H0
  go_wp2_with fail
  go_loopw [6, 7, 8] (fun u t _ wv => ∃ (q : Nat) (l : List Ctr), t = .int .i64 q ∧ q + l.length ≤ 6 ∧ CtSm l ∧ DG w p w1.heap.size (w1.heap.size + 1) A Bq c d N 25 8 u l.length (l.flatMap Ctr.cells) wv) (fun _ t _ _ => (intOf t).toNat)
  case atStart => exact ⟨q0, [], rfl, by simp; omega, (fun x hx => by cases hx), H2.out⟩
  case round =>
    clear H2
    obtain ⟨q, l, rfl, hq, hok, hI⟩ := hrel
    have HI := Lib.hid hI
    have HOK := Lib.hid hok
    have hsz := hI.sz
    clear hI hok
    by_cases hq0 : q = 0
    · have g1 : ¬ (0 : Int) < q := by omega
      have hX := HI.out.sX
      by_cases hl0 : l.length = 0
      · have hl1 : l.length ≤ 0 := by omega
        have g2 : ¬ (0 : Int) < (l.length : Int) := by omega
        obtain ⟨Al, cl, rfl, -, -, -⟩ := HI.out.o.val
        have hbX := HI.out.bX
        have hb0 := HI.out.b0
        have hy7 := hbX.lt; have cw7_0 := hbX.cell 0 rfl; have fw7_0 := hbX.frozen 0 rfl; have cw7_1 := hbX.cell 1 rfl; have fw7_1 := hbX.frozen 1 rfl
        have hy0 := hb0.lt; have cw0_0 := hb0.cell 0 rfl; have fw0_0 := hb0.frozen 0 rfl; have cw0_1 := hb0.cell 1 rfl; have fw0_1 := hb0.frozen 1 rfl
        clear hbX hb0 hl0
        go_wp2_with fail
        refine bodyPost_ret (by simp [results, Tryz.results27, go_sem, cw0_0, cw0_1]; try rfl) rfl ?_
        have := dg_postK hp HI.out ⟨l, rfl, rfl, HOK.out, by omega⟩ hnc (by omega)
        simpa [netV] using this
      · have hl1 : 1 ≤ l.length := by omega
        have g2 : (0 : Int) < (l.length : Int) := by omega
        obtain ⟨Al, cl, rfl, -, -, -⟩ := HI.out.o.val
        clear hl0
        go_wp2_with fail
        refine (spec_l01Next p _ _ HI.out.src (by omega)).mono ?_
        rintro e w3 ⟨z, rfl, za, _, zb, hs3, hk3⟩
        have H3 := Lib.hid (HI.out.keep hp hk3 hs3)
        clear hs3 hk3 zb HI
        by_cases e0 : z = 0
        · subst e0
          go_wp2_with fail
          go_loopw [6] (fun u wv => ∃ l : List Ctr, 1 ≤ l.length ∧ l.length ≤ 33 ∧ CtSm l ∧ DG w p w1.heap.size (w1.heap.size + 1) A Bq c d N 25 8 u l.length (l.flatMap Ctr.cells) wv) (fun u _ => 40 - lenOf u)
          case atStart => exact ⟨l, hl1, by omega, HOK.out, H3.out⟩
          case round =>
            clear H3 HOK hq hl1 g2 hsz g1
            rename List Ctr => l0
            obtain ⟨l, hl1, hl33, hok, hI⟩ := hrel
            have HI := Lib.hid hI
            have HOK := Lib.hid hok
            have hsz := hI.sz
            clear hI hok
            obtain ⟨Al, cl, rfl, -, hrd, -⟩ := HI.out.o.val
            have HR := Lib.hid hrd
            clear hrd
            go_wp2_with fail
            refine (spec_l01Next p _ _ HI.out.src (by omega)).mono ?_
            rintro e w4 ⟨r, rfl, ra, _, rb, hs4, hk4⟩
            have rc := rb (by omega)
            have H4 := Lib.hid (HI.out.keep hp hk4 hs4)
            have hsz4 := H4.out.sz
            clear hs4 hk4 rb HI HR
            obtain ⟨Al', cl', he, -, hrd, -⟩ := H4.out.o.val
            have hAl : Al' = Al := by injection he with h1; exact h1.symm
            subst hAl
            have HR := Lib.hid hrd
            clear he hrd
            by_cases hlt : (l.length : Int) < 32 + r
            · have hlt0 := hlt
              clear hlt
              have hlt : 0 < l.length := by omega
              obtain ⟨x, hx⟩ := get_some hlt
              obtain ⟨bx, offx, rfl, hbx, hat⟩ := HR.out.opened (k := 0) (by rw [flat_len Ctr.len]; omega)
              have t0 : w4.cell? ⟨bx, offx, none⟩ = some (.int .i64 x.sh) := by simpa using hat.elem0 Ctr.len hx rfl
              have t1 : w4.cell? ⟨bx, offx + 1, none⟩ = some (.int .i64 x.en) := by simpa using hat.elem Ctr.len hx 1 rfl
              have t2 : w4.cell? ⟨bx, offx + 2, none⟩ = some (.int .i64 x.ex) := by simpa using hat.elem Ctr.len hx 2 rfl
              have t3 : w4.cell? ⟨bx, offx + 3, none⟩ = some (.int .i64 x.am) := by simpa using hat.elem Ctr.len hx 3 rfl
              have t4 : w4.cell? ⟨bx, offx + 4, none⟩ = some (.int .i64 x.cl) := by simpa using hat.elem Ctr.len hx 4 rfl
              have t5 : w4.cell? ⟨bx, offx + 5, none⟩ = some (.int .i64 x.fr) := by simpa using hat.elem Ctr.len hx 5 rfl
              have t6 : w4.cell? ⟨bx, offx + 6, none⟩ = some (.int .i64 x.to) := by simpa using hat.elem Ctr.len hx 6 rfl
              have t7 : w4.cell? ⟨bx, offx + 7, none⟩ = some (.int .i64 x.pr) := by simpa using hat.elem Ctr.len hx 7 rfl
              have HX := Lib.hid hx
              clear hx hat
              have HXX := Lib.hid (HOK.out x (List.mem_of_getElem? HX.out))
              go_wp2_with ((at_builtin; refine wp_app1x _ rfl (.tmp 50) (.tmp 54) 35 rfl (w1.heap.size + 1) info_CtrX Tryz.underlying35 rfl (by omega) (by omega) _ _ _ rfl (H4.out.o.alloc _) _ 1 1 (Ctr.cells x) rfl rfl (by intro j u hu; match j, hu with | 0, hu => (simp [Ctr.cells] at hu; subst hu; first | (simp; done) | exact cell_newC _ _ _ _ _ _ (by simp) rfl) | 1, hu => (simp [Ctr.cells] at hu; subst hu; first | (simp; done) | exact cell_newC _ _ _ _ _ _ (by simp) rfl) | 2, hu => (simp [Ctr.cells] at hu; subst hu; first | (simp; done) | exact cell_newC _ _ _ _ _ _ (by simp) rfl) | 3, hu => (simp [Ctr.cells] at hu; subst hu; first | (simp; done) | exact cell_newC _ _ _ _ _ _ (by simp) rfl) | 4, hu => (simp [Ctr.cells] at hu; subst hu; first | (simp; done) | exact cell_newC _ _ _ _ _ _ (by simp) rfl) | 5, hu => (simp [Ctr.cells] at hu; subst hu; first | (simp; done) | exact cell_newC _ _ _ _ _ _ (by simp) rfl) | 6, hu => (simp [Ctr.cells] at hu; subst hu; first | (simp; done) | exact cell_newC _ _ _ _ _ _ (by simp) rfl) | 7, hu => (simp [Ctr.cells] at hu; subst hu; first | (simp; done) | exact cell_newC _ _ _ _ _ _ (by simp) rfl) | j + 8, hu => simp [Ctr.cells] at hu) (by simp [Ctr.cells, Value.oneCell']) (by omega) (by omega) (by first | omega | (simp; done) | (simp; omega)) ?_; intro v7 w7 hO7 hb7 hF7))
              have H7 := Lib.hid ((H4.out.below (Below.alloc (Below.refl _ _) (Nat.le_refl _) _)).put hp hO7 hb7)
              clear hO7 hF7 hb7
              go_roundw
              case rel => exact ⟨l ++ [x], by simp, by simp; omega, HOK.out.snoc HXX.out, by simpa using H7.out⟩
              case measure =>
                obtain ⟨Al7, cl7, rfl, -, -, -⟩ := H7.out.o.val
                simp [lenOf]; omega
            · have hbX := H4.out.bX
              have hb0 := H4.out.b0
              have hy7 := hbX.lt; have cw7_0 := hbX.cell 0 rfl; have fw7_0 := hbX.frozen 0 rfl; have cw7_1 := hbX.cell 1 rfl; have fw7_1 := hbX.frozen 1 rfl
              have hy0 := hb0.lt; have cw0_0 := hb0.cell 0 rfl; have fw0_0 := hb0.frozen 0 rfl; have cw0_1 := hb0.cell 1 rfl; have fw0_1 := hb0.frozen 1 rfl
              clear hbX hb0
              go_wp2_with fail
              refine bodyPost_ret (by simp [results, Tryz.results27, go_sem, cw0_0, cw0_1]; try rfl) rfl ?_
              have := dg_postK hp H4.out ⟨l, rfl, rfl, HOK.out, hl33⟩ hnc (by omega)
              simpa [netV] using this
        · have b0 : (z == 0) = false := by simpa using e0
          have hbX := H3.out.bX
          have hb0 := H3.out.b0
          have hy7 := hbX.lt; have cw7_0 := hbX.cell 0 rfl; have fw7_0 := hbX.frozen 0 rfl; have cw7_1 := hbX.cell 1 rfl; have fw7_1 := hbX.frozen 1 rfl
          have hy0 := hb0.lt; have cw0_0 := hb0.cell 0 rfl; have fw0_0 := hb0.frozen 0 rfl; have cw0_1 := hb0.cell 1 rfl; have fw0_1 := hb0.frozen 1 rfl
          clear hbX hb0
          go_wp2_with fail
          refine bodyPost_ret (by simp [results, Tryz.results27, go_sem, cw0_0, cw0_1]; try rfl) rfl ?_
          have := dg_postK hp H3.out ⟨l, rfl, rfl, HOK.out, by omega⟩ hnc (by omega)
          simpa [netV] using this
    · have g1 : (0 : Int) < q := by omega
      have bq : decide (0 < q) = true := by simp; omega
      have hbX := HI.out.bX
      have hy7 := hbX.lt; have cw7_0 := hbX.cell 0 rfl; have fw7_0 := hbX.frozen 0 rfl; have cw7_1 := hbX.cell 1 rfl; have fw7_1 := hbX.frozen 1 rfl
      clear hbX
      go_wp2_with fail
      refine (spec_l20DrawOne p A Bq _ c _ d _ HI.out.src hnl).mono ?_
      rintro e w3 ⟨y, rfl, hysm, hs3, hk3⟩
      have HY := Lib.hid hysm
      have H3 := Lib.hid (HI.out.keep hp hk3 hs3)
      have hsz3 := H3.out.sz
      clear hs3 hk3 HI cw7_0 cw7_1 fw7_0 fw7_1 hy7 hysm
      go_upto_region 7 with (fail)
      generalize hW : World.alloc w3 _ = w4
      have hb4 : Below w3.heap.size w3 w4 := by rw [← hW]; (repeat' (first | (with_reducible exact Below.refl _ _) | (with_reducible assumption) | (with_reducible refine Below.alloc ?_ ?_ _) | (with_reducible refine Below.drew ?_) | (with_reducible refine Below.drewN' ?_ _) | (with_reducible refine Below.setCell ?_ ?_ _) | (refine Below.via ?_ (by with_reducible assumption) ?_) | (with_reducible refine Below.via ?_ (Wd.h _) ?_) | go_size))
      have HX4 := Lib.hid (show Bx w4 w3.heap.size y.cells by rw [← hW]; exact bx8 (by simp) (by simp) (by simp) (by simp) (by simp) (by simp) (by simp) (by simp) (by simp) (by simp) (by simp) (by simp) (by simp) (by simp) (by simp) (by simp) (by simp))
      have H4 := Lib.hid (H3.out.below hb4)
      clear hW hb4 H3
      have hlX := HX4.out.lt
      generalize w3.heap.size = g at *
      have hbX := H4.out.bX
      have hy7 := hbX.lt; have cw7_0 := hbX.cell 0 rfl; have fw7_0 := hbX.frozen 0 rfl; have cw7_1 := hbX.cell 1 rfl; have fw7_1 := hbX.frozen 1 rfl
      clear hbX
      have hbY := HX4.out
      have hy8 := hbY.lt; have cw8_0 := hbY.cell 0 rfl; have fw8_0 := hbY.frozen 0 rfl; have cw8_1 := hbY.cell 1 rfl; have fw8_1 := hbY.frozen 1 rfl; have cw8_2 := hbY.cell 2 rfl; have fw8_2 := hbY.frozen 2 rfl; have cw8_3 := hbY.cell 3 rfl; have fw8_3 := hbY.frozen 3 rfl; have cw8_4 := hbY.cell 4 rfl; have fw8_4 := hbY.frozen 4 rfl; have cw8_5 := hbY.cell 5 rfl; have fw8_5 := hbY.frozen 5 rfl; have cw8_6 := hbY.cell 6 rfl; have fw8_6 := hbY.frozen 6 rfl; have cw8_7 := hbY.cell 7 rfl; have fw8_7 := hbY.frozen 7 rfl
      clear hbY
      obtain ⟨bb, hbb⟩ : ∃ bb, bb = (netB N && ctrB y N.nodes.length) := ⟨_, rfl⟩
      have HBB := Lib.hid hbb
      clear hbb
      go_wp2_with (first | (go_at_call 47; refine (spec_IsContract A Bq _ c _ d N y _ H4.out.net rfl rfl).mono ?_; rintro e w5 ⟨rfl, hb5⟩; rw [← HBB.out]; clear cw7_0 cw7_1 fw7_0 fw7_1 hy7 hy8 cw8_0 fw8_0 cw8_1 fw8_1 cw8_2 fw8_2 cw8_3 fw8_3 cw8_4 fw8_4 cw8_5 fw8_5 cw8_6 fw8_6 cw8_7 fw8_7; have H5 := Lib.hid (H4.out.below hb5); have HX5 := Lib.hid (HX4.out.below hb5 HX4.out.lt); clear hb5 H4 HX4; have hbX := H5.out.bX; have hy7 := hbX.lt; have cw7_0 := hbX.cell 0 rfl; have fw7_0 := hbX.frozen 0 rfl; have cw7_1 := hbX.cell 1 rfl; have fw7_1 := hbX.frozen 1 rfl; clear hbX; have hbY := HX5.out; have hy8 := hbY.lt; have cw8_0 := hbY.cell 0 rfl; have fw8_0 := hbY.frozen 0 rfl; have cw8_1 := hbY.cell 1 rfl; have fw8_1 := hbY.frozen 1 rfl; have cw8_2 := hbY.cell 2 rfl; have fw8_2 := hbY.frozen 2 rfl; have cw8_3 := hbY.cell 3 rfl; have fw8_3 := hbY.frozen 3 rfl; have cw8_4 := hbY.cell 4 rfl; have fw8_4 := hbY.frozen 4 rfl; have cw8_5 := hbY.cell 5 rfl; have fw8_5 := hbY.frozen 5 rfl; have cw8_6 := hbY.cell 6 rfl; have fw8_6 := hbY.frozen 6 rfl; have cw8_7 := hbY.cell 7 rfl; have fw8_7 := hbY.frozen 7 rfl; clear hbY; have hsz5 := H5.out.sz; cases bb) | (at_builtin; refine wp_app1x _ rfl (.tmp 32) (.tmp 34) 35 rfl (w1.heap.size + 1) info_CtrX Tryz.underlying35 rfl (by omega) (by omega) _ _ _ rfl (H5.out.o.alloc _) _ 1 1 (Ctr.cells y) rfl rfl (by intro j u hu; match j, hu with | 0, hu => (simp [Ctr.cells] at hu; subst hu; first | (simp; done) | exact cell_newC _ _ _ _ _ _ (by simp) rfl) | 1, hu => (simp [Ctr.cells] at hu; subst hu; first | (simp; done) | exact cell_newC _ _ _ _ _ _ (by simp) rfl) | 2, hu => (simp [Ctr.cells] at hu; subst hu; first | (simp; done) | exact cell_newC _ _ _ _ _ _ (by simp) rfl) | 3, hu => (simp [Ctr.cells] at hu; subst hu; first | (simp; done) | exact cell_newC _ _ _ _ _ _ (by simp) rfl) | 4, hu => (simp [Ctr.cells] at hu; subst hu; first | (simp; done) | exact cell_newC _ _ _ _ _ _ (by simp) rfl) | 5, hu => (simp [Ctr.cells] at hu; subst hu; first | (simp; done) | exact cell_newC _ _ _ _ _ _ (by simp) rfl) | 6, hu => (simp [Ctr.cells] at hu; subst hu; first | (simp; done) | exact cell_newC _ _ _ _ _ _ (by simp) rfl) | 7, hu => (simp [Ctr.cells] at hu; subst hu; first | (simp; done) | exact cell_newC _ _ _ _ _ _ (by simp) rfl) | j + 8, hu => simp [Ctr.cells] at hu) (by simp [Ctr.cells, Value.oneCell']) (by omega) (by omega) (by first | omega | (simp; done) | (simp; omega)) ?_; intro v7 w7 hO7 hb7 hF7))
      · refine (spec_l01Next p _ _ H5.out.src (by omega)).mono ?_
        rintro e w6 ⟨z, rfl, za, _, zb, hs6, hk6⟩
        have H6 := Lib.hid (H5.out.keep hp hk6 hs6)
        have HX6 := Lib.hid (HX5.out.keep hk6 (by omega))
        clear hs6 hk6 zb H5 HX5 cw7_0 cw7_1 fw7_0 fw7_1 hy7 hy8 cw8_0 fw8_0 cw8_1 fw8_1 cw8_2 fw8_2 cw8_3 fw8_3 cw8_4 fw8_4 cw8_5 fw8_5 cw8_6 fw8_6 cw8_7 fw8_7
        have hbY := HX6.out
        have hy8 := hbY.lt; have cw8_0 := hbY.cell 0 rfl; have fw8_0 := hbY.frozen 0 rfl; have cw8_1 := hbY.cell 1 rfl; have fw8_1 := hbY.frozen 1 rfl; have cw8_2 := hbY.cell 2 rfl; have fw8_2 := hbY.frozen 2 rfl; have cw8_3 := hbY.cell 3 rfl; have fw8_3 := hbY.frozen 3 rfl; have cw8_4 := hbY.cell 4 rfl; have fw8_4 := hbY.frozen 4 rfl; have cw8_5 := hbY.cell 5 rfl; have fw8_5 := hbY.frozen 5 rfl; have cw8_6 := hbY.cell 6 rfl; have fw8_6 := hbY.frozen 6 rfl; have cw8_7 := hbY.cell 7 rfl; have fw8_7 := hbY.frozen 7 rfl
        clear hbY
        have hsz6 := H6.out.sz
        by_cases e0 : z = 0
        · subst e0
          go_wp2_with ((at_builtin; refine wp_app1x _ rfl (.tmp 32) (.tmp 34) 35 rfl (w1.heap.size + 1) info_CtrX Tryz.underlying35 rfl (by omega) (by omega) _ _ _ rfl (H6.out.o.alloc _) _ 1 1 (Ctr.cells y) rfl rfl (by intro j u hu; match j, hu with | 0, hu => (simp [Ctr.cells] at hu; subst hu; first | (simp; done) | exact cell_newC _ _ _ _ _ _ (by simp) rfl) | 1, hu => (simp [Ctr.cells] at hu; subst hu; first | (simp; done) | exact cell_newC _ _ _ _ _ _ (by simp) rfl) | 2, hu => (simp [Ctr.cells] at hu; subst hu; first | (simp; done) | exact cell_newC _ _ _ _ _ _ (by simp) rfl) | 3, hu => (simp [Ctr.cells] at hu; subst hu; first | (simp; done) | exact cell_newC _ _ _ _ _ _ (by simp) rfl) | 4, hu => (simp [Ctr.cells] at hu; subst hu; first | (simp; done) | exact cell_newC _ _ _ _ _ _ (by simp) rfl) | 5, hu => (simp [Ctr.cells] at hu; subst hu; first | (simp; done) | exact cell_newC _ _ _ _ _ _ (by simp) rfl) | 6, hu => (simp [Ctr.cells] at hu; subst hu; first | (simp; done) | exact cell_newC _ _ _ _ _ _ (by simp) rfl) | 7, hu => (simp [Ctr.cells] at hu; subst hu; first | (simp; done) | exact cell_newC _ _ _ _ _ _ (by simp) rfl) | j + 8, hu => simp [Ctr.cells] at hu) (by simp [Ctr.cells, Value.oneCell']) (by omega) (by omega) (by first | omega | (simp; done) | (simp; omega)) ?_; intro v7 w7 hO7 hb7 hF7))
          have H7 := Lib.hid ((H6.out.below (Below.alloc (Below.refl _ _) (Nat.le_refl _) _)).put hp hO7 hb7)
          clear hO7 hF7 hb7
          go_roundw
          case rel => exact ⟨q - 1, l ++ [y], by go_num, by simp; omega, HOK.out.snoc HY.out, by simpa using H7.out⟩
          case measure => simp [intOf]; omega
        · have b0 : (z == 0) = false := by simpa using e0
          clear hy8 cw8_0 fw8_0 cw8_1 fw8_1 cw8_2 fw8_2 cw8_3 fw8_3 cw8_4 fw8_4 cw8_5 fw8_5 cw8_6 fw8_6 cw8_7 fw8_7
          go_wp2
          go_roundw
          case rel => exact ⟨q - 1, l, by go_num, by omega, HOK.out, H6.out⟩
          case measure => simp [intOf]; omega
      · have H7 := Lib.hid ((H5.out.below (Below.alloc (Below.refl _ _) (Nat.le_refl _) _)).put hp hO7 hb7)
        clear hO7 hF7 hb7
        go_roundw
        case rel => exact ⟨q - 1, l ++ [y], by go_num, by simp; omega, HOK.out.snoc HY.out, by simpa using H7.out⟩
        case measure => simp [intOf]; omega
end Go.Proofs.YtbdacplndmnkhaaGreatDoor
