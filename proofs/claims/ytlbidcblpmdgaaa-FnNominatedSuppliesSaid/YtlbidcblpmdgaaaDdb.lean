/- A drawn network, a book and nominations. -/
import Derived.Test.YtlbidcblpmdgaaaDdo
namespace Go.Proofs.Ytlbidcblpmdgaaa
set_option linter.unusedVariables false
set_option linter.unusedSimpArgs false
open Go.RowKit
theorem info_NomY : (Try.prog.info? 50).map (fun i => (i.zero, i.size, i.bytes)) = some (some (.agg #[.int .i64 0, .int .i64 0, .int .i64 0, .int .i64 0]), 4, 32) := by kernel_rfl
def NmSm (l : List Nom) : Prop := ∀ x ∈ l, x.sm
theorem NmSm.snoc {l : List Nom} {y : Nom} (h : NmSm l) (hy : y.sm) : NmSm (l ++ [y]) := fun x hx => by
  rcases List.mem_append.1 hx with h1 | h1
  · exact h x h1
  · rw [List.mem_singleton.1 h1]; exact hy
/-- what goes round the loops of l21Draw -/
structure DH (w : World) (p X base : Nat) (A Bq Al : Option Addr) (c d : Nat) (N : Net) (lb : List Ctr) (u : Value) (ln : List Nom) (wr : World) : Prop where
  g : DG w p X base A Bq c d N 50 4 u ln.length (ln.flatMap Nom.cells) wr
  rd : Rd wr Al (lb.flatMap Ctr.cells)
  bL : ∀ b off, Al = some ⟨b, off, none⟩ → w.heap.size < b ∧ b < base
section
variable {w wr wr' : World} {p X base : Nat} {A Bq Al : Option Addr} {c d : Nat} {N : Net} {lb : List Ctr} {u u' : Value} {ln ln' : List Nom}
theorem DH.keep (h : DH w p X base A Bq Al c d N lb u ln wr) (hp : p < w.heap.size) (hk : Keep (· = p) wr wr') (hs : Src wr' p) : DH w p X base A Bq Al c d N lb u ln wr' :=
  ⟨h.g.keep hp hk hs, h.rd.keep hk (fun b off e q => by have := (h.bL b off e).1; omega), h.bL⟩
theorem DH.below (h : DH w p X base A Bq Al c d N lb u ln wr) (hb : Below wr.heap.size wr wr') : DH w p X base A Bq Al c d N lb u ln wr' :=
  ⟨h.g.below hb, h.rd.below hb, h.bL⟩
theorem DH.put (h : DH w p X base A Bq Al c d N lb u ln wr) (hp : p < w.heap.size) (ho : Own wr' base 50 4 u' ln'.length (ln'.flatMap Nom.cells)) (hb : Below base wr wr') : DH w p X base A Bq Al c d N lb u' ln' wr' :=
  ⟨h.g.put hp ho hb, h.rd.keep (S := fun k => base ≤ k) ⟨hb.os, hb.tape, hb.output, hb.size, fun k _ h2 => hb.block k (by omega)⟩ (fun b off e q => by have := (h.bL b off e).2; omega), h.bL⟩
/-- what l21Draw hands back -/
def DrewH (w : World) (p : Nat) (e : Ending) (w' : World) : Prop :=
  ∃ (A Bq Al An : Option Addr) (c d cl cn : Nat) (N : Net) (lb : List Ctr) (ln : List Nom), e = .returned (.tuple #[netV A Bq N.nodes.length c N.pipes.length d, .slice Al lb.length cl, .slice An ln.length cn]) ∧ N.nodes.length ≤ c ∧ NetAt w' A Bq N ∧ Rd w' Al (lb.flatMap Ctr.cells) ∧ Rd w' An (ln.flatMap Nom.cells) ∧ lb.length ≤ 33 ∧ CtSm lb ∧ ln.length ≤ 201 ∧ NmSm ln ∧ Src w' p ∧ Keep (· = p) w w' ∧ (∀ b off, A = some ⟨b, off, none⟩ → w.heap.size ≤ b) ∧ (∀ b off, Bq = some ⟨b, off, none⟩ → w.heap.size ≤ b) ∧ (∀ b off, Al = some ⟨b, off, none⟩ → w.heap.size ≤ b) ∧ (∀ b off, An = some ⟨b, off, none⟩ → w.heap.size ≤ b) ∧ (∀ b off, A = some ⟨b, off, none⟩ → b < w'.heap.size) ∧ (∀ b off, Bq = some ⟨b, off, none⟩ → b < w'.heap.size) ∧ (∀ b off, Al = some ⟨b, off, none⟩ → b < w'.heap.size) ∧ (∀ b off, An = some ⟨b, off, none⟩ → b < w'.heap.size)
theorem dh_post {An : Option Addr} {cn cl : Nat} (hp : p < w.heap.size) (h : DH w p X base A Bq Al c d N lb (.slice An ln.length cn) ln wr) (hnc : N.nodes.length ≤ c) (hl : lb.length ≤ 33) (hok : CtSm lb) (hl2 : ln.length ≤ 201) (hok2 : NmSm ln) :
    DrewH w p (.returned (.tuple #[netV A Bq N.nodes.length c N.pipes.length d, .slice Al lb.length cl, .slice An ln.length cn])) ((wr.setCell ⟨w.heap.size, 0, none⟩ (.slice A N.nodes.length c)).setCell ⟨w.heap.size, 1, none⟩ (.slice Bq N.pipes.length d)) := by
  have hX := h.g.sX
  have hb0 := h.g.b0.lt
  have hsz := h.g.sz
  have hk : Keep (· = w.heap.size) wr ((wr.setCell ⟨w.heap.size, 0, none⟩ (.slice A N.nodes.length c)).setCell ⟨w.heap.size, 1, none⟩ (.slice Bq N.pipes.length d)) := ((Keep.refl _ _).one _).one _
  refine ⟨A, Bq, Al, An, c, d, cl, cn, N, lb, ln, rfl, hnc, h.g.net.keepC hk (fun b off e q => by have := (h.g.bA b off e).1; omega) (fun b off e q => by have := (h.g.bB b off e).1; omega), h.rd.keep hk (fun b off e q => by have := (h.bL b off e).1; omega), ?_, hl, hok, hl2, hok2, h.g.src.high (B := p + 1) (by (repeat' (first | (with_reducible exact Below.refl _ _) | (with_reducible assumption) | (with_reducible refine Below.alloc ?_ ?_ _) | (with_reducible refine Below.drew ?_) | (with_reducible refine Below.drewN' ?_ _) | (with_reducible refine Below.setCell ?_ ?_ _) | (refine Below.via ?_ (by with_reducible assumption) ?_) | (with_reducible refine Below.via ?_ (Wd.h _) ?_) | go_size))) (by omega), by have h1 := h.g.kp; (repeat' (first | (with_reducible exact Keep.refl _ _) | (with_reducible assumption) | (with_reducible refine Keep.alloc ?_ _) | (with_reducible refine Keep.drew ?_) | (with_reducible refine Keep.drewN ?_ _) | (refine Keep.trans ?_ (by with_reducible assumption)) | (refine Keep.via ?_ (by with_reducible assumption)) | (with_reducible refine Keep.new ?_ ?_ _) | go_size)), fun b off e => by have := (h.g.bA b off e).1; omega, fun b off e => by have := (h.g.bB b off e).1; omega, fun b off e => by have := (h.bL b off e).1; omega, fun b off e => by have := World.ownsRow.lt h.g.o b (by rw [e]; rfl); omega, fun b off e => by have := (h.g.bA b off e).2; simp; omega, fun b off e => by have := (h.g.bB b off e).2; simp; omega, fun b off e => by have := (h.bL b off e).2; simp; omega, fun b off e => by have := World.ownsRow.lt h.g.o b (by rw [e]; rfl); simp; omega⟩
  exact ((h.g.o.set_below (a := ⟨w.heap.size, 0, none⟩) (by simp; omega) (.slice A N.nodes.length c)).set_below (a := ⟨w.heap.size, 1, none⟩) (by simp; omega) (.slice Bq N.pipes.length d)).rdv.1
end
set_option maxRecDepth 100000 in
set_option maxHeartbeats 8000000 in
theorem spec_l21Draw (p : Nat) (w : World) (h : Src w p) :
    Calls Try.prog 48 #[.pointer (some ⟨p, 0, none⟩)] w (DrewH w p) := by
  have hp := h.lt
  have HS := Lib.hid h
  clear h
  go_enter Try.func48, Try.ntmps48
  go_wp2_with fail
  have HB0 := Lib.hid (show Bx (w.alloc (.cells #[.slice none 0 0, .slice none 0 0] 27)) w.heap.size [.slice none 0 0, .slice none 0 0] from (bx2 (by first | exact hy0 | go_size) (by first | (with_reducible exact cw0_0) | go_cell_look | (simp [go_sem, hy0, cw0_0, fw0_0, cw0_1, fw0_1]; done) | (simp [go_sem]; done)) (by first | (with_reducible exact fw0_0) | (simp only [World.frozen?_setCell, fw0_0]; done) | (simp [go_sem, hy0, cw0_0, fw0_0, cw0_1, fw0_1]; done) | (simp [go_sem]; done)) (by first | (with_reducible exact cw0_1) | go_cell_look | (simp [go_sem, hy0, cw0_0, fw0_0, cw0_1, fw0_1]; done) | (simp [go_sem]; done)) (by first | (with_reducible exact fw0_1) | (simp only [World.frozen?_setCell, fw0_1]; done) | (simp [go_sem, hy0, cw0_0, fw0_0, cw0_1, fw0_1]; done) | (simp [go_sem]; done))))
  refine (spec_l20Draw p _ (HS.out.below (by (repeat' (first | (with_reducible exact Below.refl _ _) | (with_reducible assumption) | (with_reducible refine Below.alloc ?_ ?_ _) | (with_reducible refine Below.drew ?_) | (with_reducible refine Below.drewN' ?_ _) | (with_reducible refine Below.setCell ?_ ?_ _) | (refine Below.via ?_ (by with_reducible assumption) ?_) | (with_reducible refine Below.via ?_ (Wd.h _) ?_) | go_size))))).mono ?_
  rintro e w1 ⟨A, Bq, Al, c, d, cl, n2, N, xs, rfl, ⟨lb, rfl, rfl, hok, hl33⟩, hnc, hN, hL, hl8, hs1, hk1, hA, hB, hAl, uA, uB, uAl⟩
  have HOK := Lib.hid hok
  have hz1 := hk1.size
  simp at hz1
  have hb2 : Below w1.heap.size w1 ((w1.alloc (.cells #[.slice A N.nodes.length c, .slice Bq N.pipes.length d] 27)).alloc (.cells #[] 50)) := by (repeat' (first | (with_reducible exact Below.refl _ _) | (with_reducible assumption) | (with_reducible refine Below.alloc ?_ ?_ _) | (with_reducible refine Below.drew ?_) | (with_reducible refine Below.drewN' ?_ _) | (with_reducible refine Below.setCell ?_ ?_ _) | (refine Below.via ?_ (by with_reducible assumption) ?_) | (with_reducible refine Below.via ?_ (Wd.h _) ?_) | go_size))
  have H0 := Lib.hid (show DH w p w1.heap.size (w1.heap.size + 1) A Bq Al c d N lb (.slice (some ⟨w1.heap.size + 1, 0, none⟩) 0 0) [] ((w1.alloc (.cells #[.slice A N.nodes.length c, .slice Bq N.pipes.length d] 27)).alloc (.cells #[] 50)) from
    ⟨⟨by simpa using Own.lit0 (w1.alloc (.cells #[.slice A N.nodes.length c, .slice Bq N.pipes.length d] 27)) (w1.heap.size + 1) 50 4 (by simp), hN.below hb2,
     fun b off e => by have h1 := hA b off e; have h2 := uA b off e; simp at h1; omega, fun b off e => by have h1 := hB b off e; have h2 := uB b off e; simp at h1; omega,
     hs1.below hb2, (show Keep (· = p) w w1 by (repeat' (first | (with_reducible exact Keep.refl _ _) | (with_reducible assumption) | (with_reducible refine Keep.alloc ?_ _) | (with_reducible refine Keep.drew ?_) | (with_reducible refine Keep.drewN ?_ _) | (refine Keep.trans ?_ (by with_reducible assumption)) | (refine Keep.via ?_ (by with_reducible assumption)) | (with_reducible refine Keep.new ?_ ?_ _) | go_size))).trans (Keep.of_below _ hb2), (HB0.out.keep hk1 (by omega)).below hb2 (by have := (HB0.out.keep hk1 (by omega)).lt; omega),
     (show Bx (w1.alloc (.cells #[.slice A N.nodes.length c, .slice Bq N.pipes.length d] 27)) w1.heap.size [.slice A N.nodes.length c, .slice Bq N.pipes.length d] from bx2 (by simp) (by simp) (by simp) (by simp) (by simp)).below (Below.alloc (Below.refl _ _) (Nat.le_refl _) _) (by simp), ⟨by omega, by omega⟩, by simp⟩,
     hL.below hb2, fun b off e => by have h1 := hAl b off e; have h2 := uAl b off e; simp at h1; omega⟩)
  clear hb2 HB0 hN hL hs1 hk1 hA hB hAl uA uB uAl hok
  go_wp2_with fail
  refine (spec_l01Next p _ _ H0.out.g.src (by omega)).mono ?_
  rintro e w2 ⟨r2, rfl, ra2, _, rb2, hs2, hk2⟩
  have rc2 := rb2 (by omega)
  have H2 := Lib.hid (H0.out.keep hp hk2 hs2)
  obtain ⟨q0, hq0⟩ : ∃ q0 : Nat, r2 = q0 := ⟨r2.toNat, by omega⟩
  subst hq0
  clear hs2 hk2 rb2 H0
  go_wp2_with fail
  go_loopw [7, 8, 9, 10] (fun u f t _ wv => ∃ (q : Nat) (ln : List Nom) (fm : Int), t = .int .i64 q ∧ f = .int .i64 fm ∧ (-3000000 ≤ fm ∧ fm ≤ 3000000) ∧ q + ln.length ≤ 9 ∧ NmSm ln ∧ DH w p w1.heap.size (w1.heap.size + 1) A Bq Al c d N lb u ln wv) (fun _ _ t _ _ => (intOf t).toNat)
  case atStart => exact ⟨q0, [], -10, rfl, rfl, by omega, by simp; omega, (fun x hx => by cases hx), H2.out⟩
  case round =>
    clear H2
    obtain ⟨q, l, fm, rfl, rfl, hfm, hq, hok, hI⟩ := hrel
    have HI := Lib.hid hI
    have HNK := Lib.hid hok
    have hsz := hI.g.sz
    clear hI hok
    by_cases hq0 : q = 0
    · have g1 : ¬ (0 : Int) < q := by omega
      have hX := HI.out.g.sX
      by_cases hl0 : l.length = 0
      · have hl1 : l.length ≤ 0 := by omega
        have g2 : ¬ (0 : Int) < (l.length : Int) := by omega
        obtain ⟨An, cn, rfl, -, -, -⟩ := HI.out.g.o.val
        have hbX := HI.out.g.bX
        have hb0 := HI.out.g.b0
        have hy7 := hbX.lt; have cw7_0 := hbX.cell 0 rfl; have fw7_0 := hbX.frozen 0 rfl; have cw7_1 := hbX.cell 1 rfl; have fw7_1 := hbX.frozen 1 rfl
        have hy0 := hb0.lt; have cw0_0 := hb0.cell 0 rfl; have fw0_0 := hb0.frozen 0 rfl; have cw0_1 := hb0.cell 1 rfl; have fw0_1 := hb0.frozen 1 rfl
        clear hbX hb0 hl0
        go_wp2_with fail
        refine bodyPost_ret (by simp [results, Try.results48, go_sem, cw0_0, cw0_1]; try rfl) rfl ?_
        have := dh_post (cl := cl) hp HI.out hnc hl33 HOK.out (by omega) HNK.out
        simpa [netV] using this
      · have hl1 : 1 ≤ l.length := by omega
        have g2 : (0 : Int) < (l.length : Int) := by omega
        obtain ⟨An, cn, rfl, -, -, -⟩ := HI.out.g.o.val
        clear hl0
        go_wp2_with fail
        refine (spec_l01Next p _ _ HI.out.g.src (by omega)).mono ?_
        rintro e w3 ⟨z, rfl, za, _, zb, hs3, hk3⟩
        have H3 := Lib.hid (HI.out.keep hp hk3 hs3)
        clear hs3 hk3 zb HI
        by_cases e0 : z = 0
        · subst e0
          go_wp2_with fail
          go_loopw [7] (fun u wv => ∃ ln : List Nom, 1 ≤ ln.length ∧ ln.length ≤ 201 ∧ NmSm ln ∧ DH w p w1.heap.size (w1.heap.size + 1) A Bq Al c d N lb u ln wv) (fun u _ => 300 - lenOf u)
          case atStart => exact ⟨l, hl1, by omega, HNK.out, H3.out⟩
          case round =>
            clear H3 HNK hq hl1 g2 hsz g1
            rename List Nom => l9
            obtain ⟨l, hl1, hl33', hok, hI⟩ := hrel
            have HI := Lib.hid hI
            have HNK := Lib.hid hok
            have hsz := hI.g.sz
            clear hI hok
            obtain ⟨An, cn, rfl, -, hrd, -⟩ := HI.out.g.o.val
            clear hrd
            go_wp2_with fail
            refine (spec_l01Next p _ _ HI.out.g.src (by omega)).mono ?_
            rintro e w4 ⟨r, rfl, ra, _, rb, hs4, hk4⟩
            have rc := rb (by omega)
            have H4 := Lib.hid (HI.out.keep hp hk4 hs4)
            have hsz4 := H4.out.g.sz
            clear hs4 hk4 rb HI
            obtain ⟨Al', cl', he, -, hrd, -⟩ := H4.out.g.o.val
            have hAl : Al' = An := by injection he with h1; exact h1.symm
            subst hAl
            have HR := Lib.hid hrd
            clear he hrd
            by_cases hlt : (l.length : Int) < 200 + r
            · have hlt0 := hlt
              clear hlt
              obtain ⟨m, hm⟩ : ∃ m, l.length = m + 1 := ⟨l.length - 1, by omega⟩
              have z1 : IntKind.i64.wrap ((l.length : Int) - 1) = (m : Int) := by rw [IntWalk.i64_in _ (by omega)]; omega
              have hml : m < l.length := by omega
              have gml : (m : Int) < (l.length : Int) := by omega
              clear hm
              obtain ⟨x, hx⟩ := get_some hml
              obtain ⟨bx, offx, rfl, hbx, hat⟩ := HR.out.opened (k := m) (by rw [flat_len Nom.len]; omega)
              have t0 := hat.elem0 Nom.len hx rfl
              have t1 := hat.elem Nom.len hx 1 rfl
              have t2 := hat.elem Nom.len hx 2 rfl
              have t3 := hat.elem Nom.len hx 3 rfl
              have HX := Lib.hid hx
              clear hx hat
              have HXX := Lib.hid (HNK.out x (List.mem_of_getElem? HX.out))
              go_wp2_with ((at_builtin; refine wp_app1x _ rfl (.tmp 58) (.tmp 65) 29 rfl (w1.heap.size + 1) info_NomY Try.underlying29 rfl (by omega) (by omega) _ _ _ rfl (H4.out.g.o.alloc _) _ 1 1 (Nom.cells x) rfl rfl (by intro j u hu; match j, hu with | 0, hu => (simp [Nom.cells] at hu; subst hu; first | (simp; done) | exact cell_newC _ _ _ _ _ _ (by simp) rfl) | 1, hu => (simp [Nom.cells] at hu; subst hu; first | (simp; done) | exact cell_newC _ _ _ _ _ _ (by simp) rfl) | 2, hu => (simp [Nom.cells] at hu; subst hu; first | (simp; done) | exact cell_newC _ _ _ _ _ _ (by simp) rfl) | 3, hu => (simp [Nom.cells] at hu; subst hu; first | (simp; done) | exact cell_newC _ _ _ _ _ _ (by simp) rfl) | j + 4, hu => simp [Nom.cells] at hu) (by simp [Nom.cells, Value.oneCell']) (by omega) (by omega) (by first | omega | (simp; done) | (simp; omega)) ?_; intro v7 w7 hO7 hb7 hF7))
              have H7 := Lib.hid ((H4.out.below (Below.alloc (Below.refl _ _) (Nat.le_refl _) _)).put (ln' := l ++ [x]) hp (by simpa using hO7) hb7)
              clear hO7 hF7 hb7
              go_roundw
              case rel => exact ⟨l ++ [x], by simp, by simp; omega, HNK.out.snoc HXX.out, H7.out⟩
              case measure =>
                obtain ⟨Al7, cl7, rfl, -, -, -⟩ := H7.out.g.o.val
                simp [lenOf]; omega
            · have hbX := H4.out.g.bX
              have hb0 := H4.out.g.b0
              have hy7 := hbX.lt; have cw7_0 := hbX.cell 0 rfl; have fw7_0 := hbX.frozen 0 rfl; have cw7_1 := hbX.cell 1 rfl; have fw7_1 := hbX.frozen 1 rfl
              have hy0 := hb0.lt; have cw0_0 := hb0.cell 0 rfl; have fw0_0 := hb0.frozen 0 rfl; have cw0_1 := hb0.cell 1 rfl; have fw0_1 := hb0.frozen 1 rfl
              clear hbX hb0
              go_wp2_with fail
              refine bodyPost_ret (by simp [results, Try.results48, go_sem, cw0_0, cw0_1]; try rfl) rfl ?_
              have := dh_post (cl := cl) hp H4.out hnc hl33 HOK.out hl33' HNK.out
              simpa [netV] using this
        · have b0 : (z == 0) = false := by simpa using e0
          have hbX := H3.out.g.bX
          have hb0 := H3.out.g.b0
          have hy7 := hbX.lt; have cw7_0 := hbX.cell 0 rfl; have fw7_0 := hbX.frozen 0 rfl; have cw7_1 := hbX.cell 1 rfl; have fw7_1 := hbX.frozen 1 rfl
          have hy0 := hb0.lt; have cw0_0 := hb0.cell 0 rfl; have fw0_0 := hb0.frozen 0 rfl; have cw0_1 := hb0.cell 1 rfl; have fw0_1 := hb0.frozen 1 rfl
          clear hbX hb0
          go_wp2_with fail
          refine bodyPost_ret (by simp [results, Try.results48, go_sem, cw0_0, cw0_1]; try rfl) rfl ?_
          have := dh_post (cl := cl) hp H3.out hnc hl33 HOK.out (by omega) HNK.out
          simpa [netV] using this
    · have g1 : (0 : Int) < q := by omega
      have bq : decide (0 < q) = true := by simp; omega
      go_wp2_with fail
      refine (spec_l21DrawOne p Al cl lb fm _ HI.out.g.src HI.out.rd (fun b off e q => by have := (HI.out.bL b off e).1; omega) hl33 HOK.out hfm).mono ?_
      rintro e w3 ⟨y, rfl, hysm, hs3, hk3⟩
      have HY := Lib.hid hysm
      have H3 := Lib.hid (HI.out.keep hp hk3 hs3)
      have hsz3 := H3.out.g.sz
      obtain ⟨y1, y2⟩ := hysm.sent
      have hne := H3.out.g.o.ne (Or.inr (Nat.le_refl _))
      clear hs3 hk3 HI hysm
      go_upto_region 8 with (fail)
      generalize hW : World.alloc w3 _ = w4
      have hb4 : Below w3.heap.size w3 w4 := by rw [← hW]; (repeat' (first | (with_reducible exact Below.refl _ _) | (with_reducible assumption) | (with_reducible refine Below.alloc ?_ ?_ _) | (with_reducible refine Below.drew ?_) | (with_reducible refine Below.drewN' ?_ _) | (with_reducible refine Below.setCell ?_ ?_ _) | (refine Below.via ?_ (by with_reducible assumption) ?_) | (with_reducible refine Below.via ?_ (Wd.h _) ?_) | go_size))
      have HX4 := Lib.hid (show Bx w4 w3.heap.size y.cells by rw [← hW]; exact bx4 (by simp) (by simp) (by simp) (by simp) (by simp) (by simp) (by simp) (by simp) (by simp))
      have H4 := Lib.hid (H3.out.below hb4)
      clear hW hb4 H3
      have hlX := HX4.out.lt
      generalize w3.heap.size = g at *
      have hbX := H4.out.g.bX
      have hy7 := hbX.lt; have cw7_0 := hbX.cell 0 rfl; have fw7_0 := hbX.frozen 0 rfl; have cw7_1 := hbX.cell 1 rfl; have fw7_1 := hbX.frozen 1 rfl
      clear hbX
      have hbY := HX4.out
      have hy8 := hbY.lt; have cw8_0 := hbY.cell 0 rfl; have fw8_0 := hbY.frozen 0 rfl; have cw8_1 := hbY.cell 1 rfl; have fw8_1 := hbY.frozen 1 rfl; have cw8_2 := hbY.cell 2 rfl; have fw8_2 := hbY.frozen 2 rfl; have cw8_3 := hbY.cell 3 rfl; have fw8_3 := hbY.frozen 3 rfl
      clear hbY
      obtain ⟨bb, hbb⟩ : ∃ bb, bb = ((bookC N lb == 0) && nomB lb y) := ⟨_, rfl⟩
      have HBB := Lib.hid hbb
      clear hbb
      go_wp2_with (first | (go_at_call 65; refine (spec_IsNomination A Bq Al _ c _ d cl N lb y _ H4.out.g.net rfl rfl H4.out.rd (by omega)).mono ?_; rintro e w5 ⟨rfl, hb5⟩; rw [← HBB.out]; clear hy7 cw7_0 fw7_0 cw7_1 fw7_1 hy8 cw8_0 fw8_0 cw8_1 fw8_1 cw8_2 fw8_2 cw8_3 fw8_3; have H5 := Lib.hid (H4.out.below hb5); have HX5 := Lib.hid (HX4.out.below hb5 HX4.out.lt); clear hb5 H4 HX4; have hbX := H5.out.g.bX; have hy7 := hbX.lt; have cw7_0 := hbX.cell 0 rfl; have fw7_0 := hbX.frozen 0 rfl; have cw7_1 := hbX.cell 1 rfl; have fw7_1 := hbX.frozen 1 rfl; clear hbX; have hbY := HX5.out; have hy8 := hbY.lt; have cw8_0 := hbY.cell 0 rfl; have fw8_0 := hbY.frozen 0 rfl; have cw8_1 := hbY.cell 1 rfl; have fw8_1 := hbY.frozen 1 rfl; have cw8_2 := hbY.cell 2 rfl; have fw8_2 := hbY.frozen 2 rfl; have cw8_3 := hbY.cell 3 rfl; have fw8_3 := hbY.frozen 3 rfl; clear hbY; have hsz5 := H5.out.g.sz; cases bb) | (at_builtin; refine wp_app1x _ rfl (.tmp 36) (.tmp 38) 29 rfl (w1.heap.size + 1) info_NomY Try.underlying29 rfl (by omega) (by omega) _ _ _ rfl (H5.out.g.o.alloc _) _ 1 1 (Nom.cells y) rfl rfl (by intro j u hu; match j, hu with | 0, hu => (simp [Nom.cells] at hu; subst hu; first | (simp; done) | exact cell_newC _ _ _ _ _ _ (by simp) rfl) | 1, hu => (simp [Nom.cells] at hu; subst hu; first | (simp; done) | exact cell_newC _ _ _ _ _ _ (by simp) rfl) | 2, hu => (simp [Nom.cells] at hu; subst hu; first | (simp; done) | exact cell_newC _ _ _ _ _ _ (by simp) rfl) | 3, hu => (simp [Nom.cells] at hu; subst hu; first | (simp; done) | exact cell_newC _ _ _ _ _ _ (by simp) rfl) | j + 4, hu => simp [Nom.cells] at hu) (by simp [Nom.cells, Value.oneCell']) (by omega) (by omega) (by first | omega | (simp; done) | (simp; omega)) ?_; intro v7 w7 hO7 hb7 hF7; have hbz := hF7.bxx (HX5.out.below (Below.alloc (Below.refl _ _) (Nat.le_refl _) _) HX5.out.lt) hne; clear hy8 cw8_0 fw8_0 cw8_1 fw8_1 cw8_2 fw8_2 cw8_3 fw8_3; have hy8 := hbz.lt; have cw8_0 := hbz.cell 0 rfl; have fw8_0 := hbz.frozen 0 rfl; have cw8_1 := hbz.cell 1 rfl; have fw8_1 := hbz.frozen 1 rfl; have cw8_2 := hbz.cell 2 rfl; have fw8_2 := hbz.frozen 2 rfl; have cw8_3 := hbz.cell 3 rfl; have fw8_3 := hbz.frozen 3 rfl; clear hbz))
      · refine (spec_l01Next p _ _ H5.out.g.src (by omega)).mono ?_
        rintro e w6 ⟨z, rfl, za, _, zb, hs6, hk6⟩
        have H6 := Lib.hid (H5.out.keep hp hk6 hs6)
        have HX6 := Lib.hid (HX5.out.keep hk6 (by omega))
        clear hs6 hk6 zb H5 HX5 hy7 cw7_0 fw7_0 cw7_1 fw7_1 hy8 cw8_0 fw8_0 cw8_1 fw8_1 cw8_2 fw8_2 cw8_3 fw8_3
        have hbY := HX6.out
        have hy8 := hbY.lt; have cw8_0 := hbY.cell 0 rfl; have fw8_0 := hbY.frozen 0 rfl; have cw8_1 := hbY.cell 1 rfl; have fw8_1 := hbY.frozen 1 rfl; have cw8_2 := hbY.cell 2 rfl; have fw8_2 := hbY.frozen 2 rfl; have cw8_3 := hbY.cell 3 rfl; have fw8_3 := hbY.frozen 3 rfl
        clear hbY
        have hsz6 := H6.out.g.sz
        by_cases e0 : z = 0
        · subst e0
          go_wp2_with ((at_builtin; refine wp_app1x _ rfl (.tmp 36) (.tmp 38) 29 rfl (w1.heap.size + 1) info_NomY Try.underlying29 rfl (by omega) (by omega) _ _ _ rfl (H6.out.g.o.alloc _) _ 1 1 (Nom.cells y) rfl rfl (by intro j u hu; match j, hu with | 0, hu => (simp [Nom.cells] at hu; subst hu; first | (simp; done) | exact cell_newC _ _ _ _ _ _ (by simp) rfl) | 1, hu => (simp [Nom.cells] at hu; subst hu; first | (simp; done) | exact cell_newC _ _ _ _ _ _ (by simp) rfl) | 2, hu => (simp [Nom.cells] at hu; subst hu; first | (simp; done) | exact cell_newC _ _ _ _ _ _ (by simp) rfl) | 3, hu => (simp [Nom.cells] at hu; subst hu; first | (simp; done) | exact cell_newC _ _ _ _ _ _ (by simp) rfl) | j + 4, hu => simp [Nom.cells] at hu) (by simp [Nom.cells, Value.oneCell']) (by omega) (by omega) (by first | omega | (simp; done) | (simp; omega)) ?_; intro v7 w7 hO7 hb7 hF7; have hbz := hF7.bxx (HX6.out.below (Below.alloc (Below.refl _ _) (Nat.le_refl _) _) HX6.out.lt) hne; clear hy8 cw8_0 fw8_0 cw8_1 fw8_1 cw8_2 fw8_2 cw8_3 fw8_3; have hy8 := hbz.lt; have cw8_0 := hbz.cell 0 rfl; have fw8_0 := hbz.frozen 0 rfl; have cw8_1 := hbz.cell 1 rfl; have fw8_1 := hbz.frozen 1 rfl; have cw8_2 := hbz.cell 2 rfl; have fw8_2 := hbz.frozen 2 rfl; have cw8_3 := hbz.cell 3 rfl; have fw8_3 := hbz.frozen 3 rfl; clear hbz))
          have H7 := Lib.hid ((H6.out.below (Below.alloc (Below.refl _ _) (Nat.le_refl _) _)).put (ln' := l ++ [y]) hp (by simpa using hO7) hb7)
          go_roundw
          case rel => exact ⟨q - 1, l ++ [y], max fm y.sent, by go_num, rfl, by omega, by simp; omega, HNK.out.snoc HY.out, H7.out⟩
          case measure => simp [intOf]; omega
        · have b0 : (z == 0) = false := by simpa using e0
          clear hy8 cw8_0 fw8_0 cw8_1 fw8_1 cw8_2 fw8_2 cw8_3 fw8_3
          go_wp2
          go_roundw
          case rel => exact ⟨q - 1, l, fm, by go_num, rfl, hfm, by omega, HNK.out, H6.out⟩
          case measure => simp [intOf]; omega
      · have H7 := Lib.hid ((H5.out.below (Below.alloc (Below.refl _ _) (Nat.le_refl _) _)).put (ln' := l ++ [y]) hp (by simpa using hO7) hb7)
        go_roundw
        case rel => exact ⟨q - 1, l ++ [y], max fm y.sent, by go_num, rfl, by omega, by simp; omega, HNK.out.snoc HY.out, H7.out⟩
        case measure => simp [intOf]; omega
end Go.Proofs.Ytlbidcblpmdgaaa
