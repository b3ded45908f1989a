/- The walk of the law FnNominations: for all bytes it returns true and writes nothing that was there. -/
import Derived.Test.YtigplpbdkjiekaaDdb
import Derived.Test.YtigplpbdkjiekaaAn
import Derived.Test.YtigplpbdkjiekaaAp3
import Derived.Deep.Upon
import Derived.Test.YtigplpbdkjiekaaAb
import Derived.Test.YtigplpbdkjiekaaAQ
import Derived.Lib.MinMax
import Derived.Test.YtigplpbdkjiekaaSu
import Derived.Test.YtigplpbdkjiekaaNf
namespace Go.Proofs.Ytigplpbdkjiekaa
set_option linter.unusedVariables false
set_option linter.unusedSimpArgs false
open Go.RowKit
def nomOf (l : List Int) : Nom := ⟨l.getD 0 0, l.getD 1 0, l.getD 2 0, l.getD 3 0⟩
/-- a drawn region with two results' boxes a and b, written by k1 and k2, and a call (kc) that draws ahead of both -/
structure WW (p a b k1 k2 kc : Nat) (net : List Value) (nom : Zr → List Value) (w0 : World) (L : Nat → Bool) (ρ : Zr) (w : World) : Prop where
  kp : Keep (fun k => k = p ∨ k = a ∨ k = b) w0 w
  sr : L k1 = false → L k2 = false → Src w p
  s1 : L k1 = false → Bx w a [.slice none 0 0, .slice none 0 0]
  t1 : L k1 = true → Bx w a net
  s2 : L k2 = false → Bx w b [.int .i64 0, .int .i64 0, .int .i64 0, .int .i64 0]
  t2 : L k2 = true → Bx w b (nom ρ)
section
variable {p a b k1 k2 kc : Nat} {net : List Value} {nom : Zr → List Value} {w0 w w' : World} {L : Nat → Bool} {ρ : Zr}
theorem WW.start (hk : Keep (fun k => k = p ∨ k = a ∨ k = b) w0 w) (hs : Src w p) (h1 : Bx w a [.slice none 0 0, .slice none 0 0]) (h2 : Bx w b [.int .i64 0, .int .i64 0, .int .i64 0, .int .i64 0]) : WW p a b k1 k2 kc net nom w0 (fun _ => false) ρ w :=
  ⟨hk, fun _ _ => hs, fun _ => h1, (fun h => by cases h), fun _ => h2, (fun h => by cases h)⟩
theorem WW.pure (h : WW p a b k1 k2 kc net nom w0 L ρ w) {i : Nat} (h1 : k1 ≠ i) (h2 : k2 ≠ i) : WW p a b k1 k2 kc net nom w0 (upd L i) ρ w :=
  ⟨h.kp, by rw [upd_ne h1, upd_ne h2]; exact h.sr, by rw [upd_ne h1]; exact h.s1, by rw [upd_ne h1]; exact h.t1, by rw [upd_ne h2]; exact h.s2, by rw [upd_ne h2]; exact h.t2⟩
theorem WW.call (h : WW p a b k1 k2 kc net nom w0 L ρ w) {ρ' : Zr} (h1 : k1 ≠ kc) (h2 : k2 ≠ kc) (n1 : L k1 = false) (n2 : L k2 = false) (hk : Keep (· = p) w w') (hs : Src w' p) (hpa : ¬ a = p) (hpb : ¬ b = p) : WW p a b k1 k2 kc net nom w0 (upd L kc) ρ' w' :=
  ⟨h.kp.trans (hk.wide fun k q => Or.inl q), fun _ _ => hs, fun _ => (h.s1 n1).keep hk hpa, (by rw [upd_ne h1, n1]; intro z; cases z), fun _ => (h.s2 n2).keep hk hpb, (by rw [upd_ne h2, n2]; intro z; cases z)⟩
theorem WW.put1 (h : WW p a b k1 k2 kc net nom w0 L ρ w) (h2 : k2 ≠ k1) (hk : Keep (· = a) w w') (hab : ¬ b = a) (ht : Bx w' a net) : WW p a b k1 k2 kc net nom w0 (upd L k1) ρ w' :=
  ⟨h.kp.trans (hk.wide fun k q => Or.inr (Or.inl q)), (by rw [upd_self]; intro z; cases z), (by rw [upd_self]; intro z; cases z), fun _ => ht, by rw [upd_ne h2]; exact fun z => (h.s2 z).keep hk hab, by rw [upd_ne h2]; exact fun z => (h.t2 z).keep hk hab⟩
theorem WW.put2 (h : WW p a b k1 k2 kc net nom w0 L ρ w) (h1 : k1 ≠ k2) (hk : Keep (· = b) w w') (hab : ¬ a = b) (ht : Bx w' b (nom ρ)) : WW p a b k1 k2 kc net nom w0 (upd L k2) ρ w' :=
  ⟨h.kp.trans (hk.wide fun k q => Or.inr (Or.inr q)), (by rw [upd_self]; intro _ z; cases z), by rw [upd_ne h1]; exact fun z => (h.s1 z).keep hk hab, by rw [upd_ne h1]; exact fun z => (h.t1 z).keep hk hab, (by rw [upd_self]; intro z; cases z), fun _ => ht⟩
end
/-- what was drawn and the results' boxes -/
structure DV (w : World) (X : Nat) (A Bq Al An : Option Addr) (c d : Nat) (N : Net) (lb : List Ctr) (ln : List Nom) (wr : World) : Prop where
  net : NetAt wr A Bq N
  rd : Rd wr Al (lb.flatMap Ctr.cells)
  rn : Rd wr An (ln.flatMap Nom.cells)
  lA : ∀ q off, A = some ⟨q, off, none⟩ → w.heap.size + 2 < q ∧ q < X
  lB : ∀ q off, Bq = some ⟨q, off, none⟩ → w.heap.size + 2 < q ∧ q < X
  lL : ∀ q off, Al = some ⟨q, off, none⟩ → w.heap.size + 2 < q ∧ q < X
  lN : ∀ q off, An = some ⟨q, off, none⟩ → w.heap.size + 2 < q ∧ q < X
  src : Src wr (w.heap.size + 2)
  bl : Below w.heap.size w wr
  b0 : Bx wr w.heap.size [.slice none 0 0, .slice none 0 0]
  b1 : Bx wr (w.heap.size + 1) [.int .i64 0, .int .i64 0, .int .i64 0, .int .i64 0]
  bX : Bx wr X [.slice A N.nodes.length c, .slice Bq N.pipes.length d]
  sX : w.heap.size + 2 < X
section
variable {w wr wr' : World} {X : Nat} {A Bq Al An : Option Addr} {c d : Nat} {N : Net} {lb : List Ctr} {ln : List Nom}
theorem DV.keep (h : DV w X A Bq Al An c d N lb ln wr) (hk : Keep (· = w.heap.size + 2) wr wr') (hs : Src wr' (w.heap.size + 2)) : DV w X A Bq Al An c d N lb ln wr' := by
  have hX := h.sX
  exact ⟨h.net.keepC hk (fun b off e q => by have := h.lA b off e; omega) (fun b off e q => by have := h.lB b off e; omega), h.rd.keep hk (fun b off e q => by have := h.lL b off e; omega), h.rn.keep hk (fun b off e q => by have := h.lN b off e; omega), h.lA, h.lB, h.lL, h.lN, hs, hk.below h.bl (by have := h.b0.lt; omega) (by intro k q; omega), h.b0.keep hk (by omega), h.b1.keep hk (by omega), h.bX.keep hk (by omega), hX⟩
theorem DV.below (h : DV w X A Bq Al An c d N lb ln wr) (hb : Below wr.heap.size wr wr') : DV w X A Bq Al An c d N lb ln wr' :=
  ⟨h.net.below hb, h.rd.below hb, h.rn.below hb, h.lA, h.lB, h.lL, h.lN, h.src.below hb, h.bl.trans (hb.mono h.bl.size), h.b0.below hb h.b0.lt, h.b1.below hb h.b1.lt, h.bX.below hb h.bX.lt, h.sX⟩
/-- a write to a box made later, and draws -/
theorem DV.keep2 {g : Nat} (h : DV w X A Bq Al An c d N lb ln wr) (hg : X < g) (hk : Keep (fun k => k = w.heap.size + 2 ∨ k = g) wr wr') (hs : Src wr' (w.heap.size + 2)) : DV w X A Bq Al An c d N lb ln wr' := by
  have hX := h.sX
  exact ⟨h.net.keepC hk (fun b off e q => by have := h.lA b off e; omega) (fun b off e q => by have := h.lB b off e; omega), h.rd.keep hk (fun b off e q => by have := h.lL b off e; omega), h.rn.keep hk (fun b off e q => by have := h.lN b off e; omega), h.lA, h.lB, h.lL, h.lN, hs, hk.below h.bl (by have := h.b0.lt; omega) (by intro k q; omega), h.b0.keep hk (by omega), h.b1.keep hk (by omega), h.bX.keep hk (by omega), hX⟩
def DrewV (w : World) (e : Ending) (w' : World) : Prop :=
  ∃ (A Bq Al An : Option Addr) (c d cl cn : Nat) (N : Net) (lb : List Ctr) (ln : List Nom) (x : Nom), e = .returned (.tuple #[netV A Bq N.nodes.length c N.pipes.length d, .slice Al lb.length cl, .slice An ln.length cn, x.val]) ∧ N.nodes.length ≤ c ∧ NetAt w' A Bq N ∧ Rd w' Al (lb.flatMap Ctr.cells) ∧ Rd w' An (ln.flatMap Nom.cells) ∧ lb.length ≤ 33 ∧ ln.length ≤ 201 ∧ Below w.heap.size w w'
theorem dv_post {cl cn : Nat} (x : Nom) (h : DV w X A Bq Al An c d N lb ln wr) (hk : Keep (fun k => k = w.heap.size + 2 ∨ k = w.heap.size ∨ k = w.heap.size + 1) wr wr') (hnc : N.nodes.length ≤ c) (hl : lb.length ≤ 33) (hl2 : ln.length ≤ 201) :
    DrewV w (.returned (.tuple #[netV A Bq N.nodes.length c N.pipes.length d, .slice Al lb.length cl, .slice An ln.length cn, x.val])) wr' :=
  ⟨A, Bq, Al, An, c, d, cl, cn, N, lb, ln, x, rfl, hnc, h.net.keepC hk (fun b off e q => by have := h.lA b off e; omega) (fun b off e q => by have := h.lB b off e; omega), h.rd.keep hk (fun b off e q => by have := h.lL b off e; omega), h.rn.keep hk (fun b off e q => by have := h.lN b off e; omega), hl, hl2, hk.below h.bl (by have := h.b0.lt; omega) (by intro k q; omega)⟩
end
set_option maxRecDepth 100000 in
set_option maxHeartbeats 8000000 in
theorem spec_DrawAcceptNomination (A0 : Option Addr) (c0 : Nat) (l0 : List Int) (w : World) (h : BytesIn w A0 l0) (hl : l0.length ≤ 4096) :
    Calls Try.prog 7 #[.slice A0 l0.length c0] w (DrewV w) := by
  have HI := Lib.hid h
  clear h
  go_enter Try.func7, Try.ntmps7
  go_wp2_with fail
  refine (spec_l01From A0 c0 l0 _ (HI.out.below (by (repeat' (first | (with_reducible exact Below.refl _ _) | (with_reducible assumption) | (with_reducible refine Below.alloc ?_ ?_ _) | (with_reducible refine Below.drew ?_) | (with_reducible refine Below.drewN' ?_ _) | (with_reducible refine Below.setCell ?_ ?_ _) | (refine Below.via ?_ (by with_reducible assumption) ?_) | (with_reducible refine Below.via ?_ (Wd.h _) ?_) | go_size)))) hl).mono ?_
  rintro e w1 ⟨rfl, hs1, hb1⟩
  have hs1 : Src w1 (w.heap.size + 2) := by simpa using hs1
  have HS1 := Lib.hid hs1
  have hp1 := hs1.lt
  clear hs1
  (obtain ⟨hcn, hfn⟩ := bcell hb1; have hz1 := hb1.size; (try simp at hz1); have Ncw0_0 := hcn (w.heap.size) (0) (by first | omega | (simp; done) | (simp; omega)); have Nfw0_0 := hfn (w.heap.size) (0) (by first | omega | (simp; done) | (simp; omega)); have Nhy0 : w.heap.size < w1.heap.size := (by omega); have Ncw0_1 := hcn (w.heap.size) (1) (by first | omega | (simp; done) | (simp; omega)); have Nfw0_1 := hfn (w.heap.size) (1) (by first | omega | (simp; done) | (simp; omega)); have Ncw1_0 := hcn (w.heap.size + 1) (0) (by first | omega | (simp; done) | (simp; omega)); have Nfw1_0 := hfn (w.heap.size + 1) (0) (by first | omega | (simp; done) | (simp; omega)); have Nhy1 : w.heap.size + 1 < w1.heap.size := (by omega); have Ncw1_1 := hcn (w.heap.size + 1) (1) (by first | omega | (simp; done) | (simp; omega)); have Nfw1_1 := hfn (w.heap.size + 1) (1) (by first | omega | (simp; done) | (simp; omega)); have Ncw1_2 := hcn (w.heap.size + 1) (2) (by first | omega | (simp; done) | (simp; omega)); have Nfw1_2 := hfn (w.heap.size + 1) (2) (by first | omega | (simp; done) | (simp; omega)); have Ncw1_3 := hcn (w.heap.size + 1) (3) (by first | omega | (simp; done) | (simp; omega)); have Nfw1_3 := hfn (w.heap.size + 1) (3) (by first | omega | (simp; done) | (simp; omega)); simp [go_sem] at Ncw0_0 Nfw0_0 Ncw0_1 Nfw0_1 Ncw1_0 Nfw1_0 Ncw1_1 Nfw1_1 Ncw1_2 Nfw1_2 Ncw1_3 Nfw1_3; clear hcn hfn; have cw0_0 := Ncw0_0; have fw0_0 := Nfw0_0; have cw0_1 := Ncw0_1; have fw0_1 := Nfw0_1; have cw1_0 := Ncw1_0; have fw1_0 := Nfw1_0; have cw1_1 := Ncw1_1; have fw1_1 := Nfw1_1; have cw1_2 := Ncw1_2; have fw1_2 := Nfw1_2; have cw1_3 := Ncw1_3; have fw1_3 := Nfw1_3; have hy0 := Nhy0; have hy1 := Nhy1; clear Ncw0_0 Nfw0_0 Ncw0_1 Nfw0_1 Ncw1_0 Nfw1_0 Ncw1_1 Nfw1_1 Ncw1_2 Nfw1_2 Ncw1_3 Nfw1_3 Nhy0 Nhy1)
  have HB0 := Lib.hid (show Bx w1 w.heap.size [.slice none 0 0, .slice none 0 0] from bx2 hy0 cw0_0 fw0_0 cw0_1 fw0_1)
  have HB1 := Lib.hid (show Bx w1 (w.heap.size + 1) [.int .i64 0, .int .i64 0, .int .i64 0, .int .i64 0] from bx4 hy1 cw1_0 fw1_0 cw1_1 fw1_1 cw1_2 fw1_2 cw1_3 fw1_3)
  have HBW := Lib.hid (show Below w.heap.size w w1 by (repeat' (first | (with_reducible exact Below.refl _ _) | (with_reducible assumption) | (with_reducible refine Below.alloc ?_ ?_ _) | (with_reducible refine Below.drew ?_) | (with_reducible refine Below.drewN' ?_ _) | (with_reducible refine Below.setCell ?_ ?_ _) | (refine Below.via ?_ (by with_reducible assumption) ?_) | (with_reducible refine Below.via ?_ (Wd.h _) ?_) | go_size)))
  clear hb1 hy0 cw0_0 fw0_0 cw0_1 fw0_1 hy1 cw1_0 fw1_0 cw1_1 fw1_1 cw1_2 fw1_2 cw1_3 fw1_3
  go_wp2_with fail
  refine (spec_l21Draw (w.heap.size + 2) _ HS1.out).mono ?_
  rintro e w2 ⟨A, Bq, Al, An, c, d, cl, cn, N, lb, ln, rfl, hnc, hN, hL, hM, hl33, hok, hn201, hnk, hs2, hk2, hA, hB, hAl, hAn, uA, uB, uAl, uAn⟩
  have HOK := Lib.hid hok
  have HNK := Lib.hid hnk
  have hz2 := hk2.size
  go_upto_region 3 with (fail)
  generalize hW : World.alloc w2 _ = w3
  have hb3 : Below w2.heap.size w2 w3 := by rw [← hW]; (repeat' (first | (with_reducible exact Below.refl _ _) | (with_reducible assumption) | (with_reducible refine Below.alloc ?_ ?_ _) | (with_reducible refine Below.drew ?_) | (with_reducible refine Below.drewN' ?_ _) | (with_reducible refine Below.setCell ?_ ?_ _) | (refine Below.via ?_ (by with_reducible assumption) ?_) | (with_reducible refine Below.via ?_ (Wd.h _) ?_) | go_size))
  have H3 := Lib.hid (show DV w w2.heap.size A Bq Al An c d N lb ln w3 from ⟨hN.below hb3, hL.below hb3, hM.below hb3, fun b off e => by have := hA b off e; have := uA b off e; omega, fun b off e => by have := hB b off e; have := uB b off e; omega, fun b off e => by have := hAl b off e; have := uAl b off e; omega, fun b off e => by have := hAn b off e; have := uAn b off e; omega, hs2.below hb3, (hk2.below HBW.out (by omega) (by intro k q; omega)).trans (hb3.mono (by omega)), (HB0.out.keep hk2 (by omega)).below hb3 (by omega), (HB1.out.keep hk2 (by omega)).below hb3 (by omega), by rw [← hW]; exact bx2 (by simp) (by simp) (by simp) (by simp) (by simp), by omega⟩)
  clear hW hb3 HB0 HB1 HBW hN hL hM hs2 hk2 hA hB hAl hAn uA uB uAl uAn hok hnk HS1
  obtain ⟨X, hX⟩ : ∃ X, X = w2.heap.size := ⟨_, rfl⟩
  rw [← hX] at H3
  rw [← hX]
  clear hX
  have hsX := H3.out.sX
  by_cases hn0 : ln.length = 0
  · have g2 : ¬ (0 : Int) < (ln.length : Int) := by omega
    clear hn0
    go_wp2_with fail
    have hzk := H3.out.b1.lt
    have hzs := H3.out.src.lt
    refine wp_region_tb (R := Zr) [some 57, some 58, some 59, some 60, some 61, some 62, none, some 3, some 4, none] _ (by intro u; simp only [frs, Act.put, List.setIfInBounds_toArray, List.set_cons_zero, List.set_cons_succ, Nat.reduceAdd]; exact rfl) (fun ρ j => ([.agg #[.slice A N.nodes.length c, .slice Bq N.pipes.length d], .slice Al lb.length cl, .slice An ln.length cn, .pointer (some ⟨w.heap.size + 2, 0, none⟩), .slice Al lb.length cl, (nomOf (ρ.c 5)).val, undef, .slice Al lb.length cl, .slice An ln.length cn, undef] : List Value).getD j undef) (WW (w.heap.size + 2) w.heap.size (w.heap.size + 1) 6 9 5 [.slice A N.nodes.length c, .slice Bq N.pipes.length d] (fun ρ => (nomOf (ρ.c 5)).cells) w3) (by kernel_rfl) (by kernel_rfl) Zr.zero (WW.start (Keep.of_below _ (Below.drew (Below.refl _ _))) (H3.out.src.below (Below.drew (Below.refl _ _))) (H3.out.b0.below (Below.drew (Below.refl w3.heap.size _)) H3.out.b0.lt) (H3.out.b1.below (Below.drew (Below.refl w3.heap.size _)) H3.out.b1.lt)) ?_ ?_
    · intro ii hii L ρ u wx hl hp hc hu hn hW
      have hii : ii < 10 := hii
      have HNo := Lib.hid hn
      clear hn
      have hii : ii = 0 ∨ ii = 1 ∨ ii = 2 ∨ ii = 3 ∨ ii = 4 ∨ ii = 5 ∨ ii = 6 ∨ ii = 7 ∨ ii = 8 ∨ ii = 9 := by omega
      rcases hii with rfl | rfl | rfl | rfl | rfl | rfl | rfl | rfl | rfl | rfl
      · have hbX := H3.out.bX.keep hW.kp (fun q => by omega)
        have xx0 := hbX.cell 0 rfl
        have xx1 := hbX.cell 1 rfl
        clear hbX
        refine wpOp_go (E := True) rfl rfl (fun K' hK => ?_)
        go_simp
        refine hK.out _ _ ⟨ρ, (by simp only [put]; rfl), fun _ _ => rfl, hW.pure (by omega) (by omega)⟩
      · refine wpOp_go (E := True) rfl rfl (fun K' hK => ?_)
        go_simp
        refine hK.out _ _ ⟨ρ, (by simp only [put]; rfl), fun _ _ => rfl, hW.pure (by omega) (by omega)⟩
      · refine wpOp_go (E := True) rfl rfl (fun K' hK => ?_)
        go_simp
        refine hK.out _ _ ⟨ρ, (by simp only [put]; rfl), fun _ _ => rfl, hW.pure (by omega) (by omega)⟩
      · refine wpOp_go (E := True) rfl rfl (fun K' hK => ?_)
        go_simp
        refine hK.out _ _ ⟨ρ, (by simp only [put]; rfl), fun _ _ => rfl, hW.pure (by omega) (by omega)⟩
      · refine wpOp_go (E := True) rfl rfl (fun K' hK => ?_)
        go_simp
        refine hK.out _ _ ⟨ρ, (by simp only [put]; rfl), fun _ _ => rfl, hW.pure (by omega) (by omega)⟩
      · have e3 : u 3 = .pointer (some ⟨w.heap.size + 2, 0, none⟩) := hu 3 (all_of hp (by kernel_rfl))
        have e4 : u 4 = .slice Al lb.length cl := hu 4 (all_of hp (by kernel_rfl))
        have n1 : L 6 = false := no_later hc hl (by kernel_rfl)
        have n2 : L 9 = false := no_later hc hl (by kernel_rfl)
        refine wpOp_go (E := True) rfl rfl (fun K' hK => ?_)
        go_simp
        go_at_call 35
        refine (spec_l21DrawOne (w.heap.size + 2) Al cl lb (-10) _ (hW.sr n1 n2) (H3.out.rd.keep hW.kp (fun b off e q => by have := H3.out.lL b off e; omega)) (fun b off e q => by have := H3.out.lL b off e; omega) hl33 HOK.out (by omega)).mono ?_
        rintro e' w5 ⟨y, rfl, -, hs5, hk5⟩
        refine hK.out _ _ ⟨ρ.made 5 0 [y.con, y.hr, y.sent, y.am], (by simp only [put, e3, e4]; rfl), fun j hj => by
            have n9 : L 9 = false := no_later hc hl (by kernel_rfl)
            match j, hj with
            | 0, _ => rfl
            | 1, _ => rfl
            | 2, _ => rfl
            | 3, _ => rfl
            | 4, _ => rfl
            | 5, hj => rw [hl] at hj; cases hj
            | 6, _ => rfl
            | 7, _ => rfl
            | 8, _ => rfl
            | 9, hj => rw [n9] at hj; cases hj
            | _ + 10, _ => rfl, hW.call (by omega) (by omega) n1 n2 hk5 hs5 (by omega) (by omega)⟩
      · have e0 : u 0 = .agg #[.slice A N.nodes.length c, .slice Bq N.pipes.length d] := hu 0 (all_of hp (by kernel_rfl))
        have hb0 := hW.s1 hl
        have hyX := hb0.lt
        have xx0 := hb0.cell 0 rfl
        have xx1 := hb0.cell 1 rfl
        have xf0 := hb0.frozen 0 rfl
        have xf1 := hb0.frozen 1 rfl
        clear hb0
        refine wpOp_go (E := True) rfl rfl (fun K' hK => ?_)
        go_simp
        refine hK.out _ _ ⟨ρ, (by simp only [put, e0]; rfl), fun _ _ => rfl, hW.put1 (by omega) (((Keep.refl (· = w.heap.size) _).one _).one _) (by omega) (bx2 (by simp; omega) (by simp [go_sem, xx0, xx1]) (by simp [go_sem, xf0]) (by simp [go_sem, xx0, xx1]) (by simp [go_sem, xf1]))⟩
      · have e1 : u 1 = .slice Al lb.length cl := hu 1 (all_of hp (by kernel_rfl))
        refine wpOp_go (E := True) rfl rfl (fun K' hK => ?_)
        go_simp
        refine hK.out _ _ ⟨ρ, (by simp only [put, e1]; rfl), fun _ _ => rfl, hW.pure (by omega) (by omega)⟩
      · have e2 : u 2 = .slice An ln.length cn := hu 2 (all_of hp (by kernel_rfl))
        refine wpOp_go (E := True) rfl rfl (fun K' hK => ?_)
        go_simp
        refine hK.out _ _ ⟨ρ, (by simp only [put, e2]; rfl), fun _ _ => rfl, hW.pure (by omega) (by omega)⟩
      · have e5 : u 5 = (nomOf (ρ.c 5)).val := hu 5 (all_of hp (by kernel_rfl))
        have hb0 := hW.s2 hl
        have hyX := hb0.lt
        have xx0 := hb0.cell 0 rfl
        have xx1 := hb0.cell 1 rfl
        have xx2 := hb0.cell 2 rfl
        have xx3 := hb0.cell 3 rfl
        have xf0 := hb0.frozen 0 rfl
        have xf1 := hb0.frozen 1 rfl
        have xf2 := hb0.frozen 2 rfl
        have xf3 := hb0.frozen 3 rfl
        clear hb0
        refine wpOp_go (E := True) rfl rfl (fun K' hK => ?_)
        go_simp
        refine hK.out _ _ ⟨ρ, (by simp only [put, e5]; rfl), fun _ _ => rfl, hW.put2 (by omega) ((((((Keep.refl (· = w.heap.size + 1) _).one _).one _).one _).one _)) (by omega) (bx4 (by simp; omega) (by simp [go_sem, xx0, xx1, xx2, xx3]) (by simp [go_sem, xf0]) (by simp [go_sem, xx0, xx1, xx2, xx3]) (by simp [go_sem, xf1]) (by simp [go_sem, xx0, xx1, xx2, xx3]) (by simp [go_sem, xf2]) (by simp [go_sem, xx0, xx1, xx2, xx3]) (by simp [go_sem, xf3]))⟩
    · intro L ρ u wx hall hu hW
      have hb0 := hW.t1 (hall 6 (by show 6 < 10; omega))
      have hb1 := hW.t2 (hall 9 (by show 9 < 10; omega))
      have cw0_0 := hb0.cell 0 rfl
      have cw0_1 := hb0.cell 1 rfl
      have cw1_0 := hb1.cell 0 rfl
      have cw1_1 := hb1.cell 1 rfl
      have cw1_2 := hb1.cell 2 rfl
      have cw1_3 := hb1.cell 3 rfl
      have eR0 : u 7 = .slice Al lb.length cl := hu 7 (by show 7 < 10; omega)
      have eR1 : u 8 = .slice An ln.length cn := hu 8 (by show 8 < 10; omega)
      have hkp := hW.kp
      clear hu hall hW hb0 hb1
      go_wp2
      refine bodyPost_ret (by simp [results, Try.results7, go_sem, cw0_0, cw0_1, cw1_0, cw1_1, cw1_2, cw1_3]; try rfl) rfl ?_
      have := dv_post (cl := cl) (cn := cn) (nomOf (ρ.c 5)) H3.out hkp hnc hl33 hn201
      simpa [netV, eR0, eR1, nomOf] using this
  · have g2 : (0 : Int) < (ln.length : Int) := by omega
    have hn1 : 1 ≤ ln.length := by omega
    clear hn0
    go_wp2_with fail
    refine (spec_l01Next (w.heap.size + 2) _ _ H3.out.src (by omega)).mono ?_
    rintro e w4 ⟨z, rfl, za, _, zb, hs4, hk4⟩
    have H4 := Lib.hid (H3.out.keep hk4 hs4)
    clear hs4 hk4 zb H3
    by_cases z0 : z = 0
    · subst z0
      go_wp2_with fail
      refine (spec_l01Next (w.heap.size + 2) _ _ H4.out.src (by omega)).mono ?_
      rintro e w5 ⟨r, rfl, ra, rz, rb, hs5, hk5⟩
      have rc : r < ln.length := by
        by_cases h1 : ((ln.length : Nat) : Int) ≤ 1
        · have := rz h1; omega
        · have := rb (by omega); omega
      obtain ⟨k, hk⟩ : ∃ k : Nat, r = k := ⟨r.toNat, by omega⟩
      subst hk
      have hlt : k < ln.length := by omega
      have H5 := Lib.hid (H4.out.keep hk5 hs5)
      clear hs5 hk5 rb rz H4
      obtain ⟨m, hm⟩ : ∃ m, ln.length = m + 1 := ⟨ln.length - 1, by omega⟩
      have z1 : IntKind.i64.wrap ((ln.length : Int) - 1) = (m : Int) := by rw [IntWalk.i64_in _ (by omega)]; omega
      have hml : m < ln.length := by omega
      clear hm
      obtain ⟨x, hx⟩ := get_some hlt
      obtain ⟨y, hy⟩ := get_some hml
      obtain ⟨bx, offx, rfl, hbx, hat⟩ := H5.out.rn.opened (k := k) (by rw [flat_len Nom.len]; omega)
      have t0 := hat.elem0 Nom.len hx rfl
      have t1 := hat.elem Nom.len hx 1 rfl
      have t2 := hat.elem Nom.len hx 2 rfl
      have t3 := hat.elem Nom.len hx 3 rfl
      have s2 := hat.elem Nom.len hy 2 rfl
      obtain ⟨sm1, sm2, sm3, sm4⟩ := HNK.out x (List.mem_of_getElem? hx)
      have gk : (k : Int) < (ln.length : Int) := by omega
      have gml : (m : Int) < (ln.length : Int) := by omega
      clear hx hy hat
      go_upto_region 5 with (fail)
      generalize hW : World.alloc w5 _ = w6
      have hb6 : Below w5.heap.size w5 w6 := by rw [← hW]; (repeat' (first | (with_reducible exact Below.refl _ _) | (with_reducible assumption) | (with_reducible refine Below.alloc ?_ ?_ _) | (with_reducible refine Below.drew ?_) | (with_reducible refine Below.drewN' ?_ _) | (with_reducible refine Below.setCell ?_ ?_ _) | (refine Below.via ?_ (by with_reducible assumption) ?_) | (with_reducible refine Below.via ?_ (Wd.h _) ?_) | go_size))
      have HX := Lib.hid (show Bx w6 w5.heap.size x.cells by rw [← hW]; exact bx4 (by simp) (by simp) (by simp) (by simp) (by simp) (by simp) (by simp) (by simp) (by simp))
      have H6 := Lib.hid (H5.out.below hb6)
      have HS2 := Lib.hid (((bcell hb6).1 bx (offx + m * 4 + 2) hbx).trans s2)
      have hxl := H5.out.bX.lt
      have hlX := HX.out.lt
      clear hW hb6 H5 t0 t1 t2 t3 s2
      generalize w5.heap.size = g at *
      have hzk := H6.out.b1.lt
      have hzs := H6.out.src.lt
      have hbN := H6.out.lN bx offx rfl
      go_wp2_with fail
      refine wp_region_tb (R := Zr) [some 34, some 35, some 36, some 37, some 38, some 39, some 40, some 41, some 42, some 43, some 44, none] _ (by intro u; simp only [frs, Act.put, List.setIfInBounds_toArray, List.set_cons_zero, List.set_cons_succ, Nat.reduceAdd]; exact rfl) (fun ρ j => ([.pointer (some ⟨g, 2, none⟩), .int .i64 x.sent, .slice (some ⟨bx, offx, none⟩) ln.length cn, .slice (some ⟨bx, offx, none⟩) ln.length cn, .int .i64 (ln.length : Int), .int .i64 (m : Int), .pointer (some ⟨bx, offx + m * 4, none⟩), .pointer (some ⟨bx, offx + m * 4 + 2, none⟩), .int .i64 y.sent, .int .i64 (max x.sent y.sent), .pointer (some ⟨g, 2, none⟩), undef] : List Value).getD j undef) (WZ (w.heap.size + 2) (fun k => k = g) [] [] 11 (fun wt => Bx wt g (Nom.cells ⟨x.con, x.hr, x.sent, x.am⟩)) (fun _ wt => ∃ v : Int, Src wt (w.heap.size + 2) ∧ Bx wt g (Nom.cells ⟨x.con, x.hr, v, x.am⟩)) w6) (by kernel_rfl) (by kernel_rfl) Zr.zero (WZ.start (Keep.of_below _ (Below.drew (Below.refl _ _))) (H6.out.src.below (Below.drew (Below.refl _ _))) (HX.out.below (Below.drew (Below.refl w6.heap.size _)) HX.out.lt)) ?_ ?_
      · intro ii hii L ρ u wx hl hp hc hu hn hW
        have hii : ii < 12 := hii
        have HNo := Lib.hid hn
        clear hn
        have hii : ii = 0 ∨ ii = 1 ∨ ii = 2 ∨ ii = 3 ∨ ii = 4 ∨ ii = 5 ∨ ii = 6 ∨ ii = 7 ∨ ii = 8 ∨ ii = 9 ∨ ii = 10 ∨ ii = 11 := by omega
        rcases hii with rfl | rfl | rfl | rfl | rfl | rfl | rfl | rfl | rfl | rfl | rfl | rfl
        · refine wpOp_go (E := True) rfl rfl (fun K' hK => ?_)
          go_simp
          refine hK.out _ _ ⟨ρ, (by simp only [put]; rfl), fun _ _ => rfl, hW.pure rfl rfl (by omega)⟩
        · have e0 : u 0 = .pointer (some ⟨g, 2, none⟩) := hu 0 (all_of hp (by kernel_rfl))
          have xx2 := (hW.t0 (no_later (i := 9) hc (no_later hc hl (by kernel_rfl)) (by kernel_rfl))).cell 2 rfl
          refine wpOp_go (E := True) rfl rfl (fun K' hK => ?_)
          go_simp
          refine hK.out _ _ ⟨ρ, (by simp only [put, e0]; rfl), fun _ _ => rfl, hW.pure rfl rfl (by omega)⟩
        · refine wpOp_go (E := True) rfl rfl (fun K' hK => ?_)
          go_simp
          refine hK.out _ _ ⟨ρ, (by simp only [put]; rfl), fun _ _ => rfl, hW.pure rfl rfl (by omega)⟩
        · refine wpOp_go (E := True) rfl rfl (fun K' hK => ?_)
          go_simp
          refine hK.out _ _ ⟨ρ, (by simp only [put]; rfl), fun _ _ => rfl, hW.pure rfl rfl (by omega)⟩
        · have e3 : u 3 = .slice (some ⟨bx, offx, none⟩) ln.length cn := hu 3 (all_of hp (by kernel_rfl))
          refine wpOp_go (E := True) rfl rfl (fun K' hK => ?_)
          go_simp
          refine hK.out _ _ ⟨ρ, (by simp only [put, e3]; rfl), fun _ _ => rfl, hW.pure rfl rfl (by omega)⟩
        · have e4 : u 4 = .int .i64 (ln.length : Int) := hu 4 (all_of hp (by kernel_rfl))
          have hwr5 := IntWalk.i64_in (m : Int) ⟨by omega, by omega⟩
          refine wpOp_go (E := True) rfl rfl (fun K' hK => ?_)
          go_simp
          refine hK.out _ _ ⟨ρ, (by simp only [put, e4, z1, hwr5]; rfl), fun _ _ => rfl, hW.pure rfl rfl (by omega)⟩
        · have e2 : u 2 = .slice (some ⟨bx, offx, none⟩) ln.length cn := hu 2 (all_of hp (by kernel_rfl))
          have e5 : u 5 = .int .i64 (m : Int) := hu 5 (all_of hp (by kernel_rfl))
          refine wpOp_go (E := True) rfl rfl (fun K' hK => ?_)
          go_simp
          refine hK.out _ _ ⟨ρ, (by simp only [put, e2, e5]; rfl), fun _ _ => rfl, hW.pure rfl rfl (by omega)⟩
        · have e6 : u 6 = .pointer (some ⟨bx, offx + m * 4, none⟩) := hu 6 (all_of hp (by kernel_rfl))
          refine wpOp_go (E := True) rfl rfl (fun K' hK => ?_)
          go_simp
          refine hK.out _ _ ⟨ρ, (by simp only [put, e6]; rfl), fun _ _ => rfl, hW.pure rfl rfl (by omega)⟩
        · have e7 : u 7 = .pointer (some ⟨bx, offx + m * 4 + 2, none⟩) := hu 7 (all_of hp (by kernel_rfl))
          have yy := (hW.kp.cell bx (offx + m * 4 + 2) (by omega) (fun q => by omega)).trans HS2.out
          refine wpOp_go (E := True) rfl rfl (fun K' hK => ?_)
          go_simp
          refine hK.out _ _ ⟨ρ, (by simp only [put, e7]; rfl), fun _ _ => rfl, hW.pure rfl rfl (by omega)⟩
        · have e1 : u 1 = .int .i64 x.sent := hu 1 (all_of hp (by kernel_rfl))
          have e8 : u 8 = .int .i64 y.sent := hu 8 (all_of hp (by kernel_rfl))
          refine wpOp_go (E := True) rfl rfl (fun K' hK => ?_)
          go_simp
          refine hK.out _ _ ⟨ρ, (by simp only [put, e1, e8]; rfl), fun _ _ => rfl, hW.pure rfl rfl (by omega)⟩
        · refine wpOp_go (E := True) rfl rfl (fun K' hK => ?_)
          go_simp
          refine hK.out _ _ ⟨ρ, (by simp only [put]; rfl), fun _ _ => rfl, hW.pure rfl rfl (by omega)⟩
        · have e10 : u 10 = .pointer (some ⟨g, 2, none⟩) := hu 10 (all_of hp (by kernel_rfl))
          have e9 : u 9 = .int .i64 (max x.sent y.sent) := hu 9 (all_of hp (by kernel_rfl))
          have hb0 := hW.t0 hl
          have hyX := hb0.lt
          have xx0 := hb0.cell 0 rfl
          have xx1 := hb0.cell 1 rfl
          have xx2 := hb0.cell 2 rfl
          have xx3 := hb0.cell 3 rfl
          have xf0 := hb0.frozen 0 rfl
          have xf1 := hb0.frozen 1 rfl
          have xf2 := hb0.frozen 2 rfl
          have xf3 := hb0.frozen 3 rfl
          clear hb0
          refine wpOp_go (E := True) rfl rfl (fun K' hK => ?_)
          go_simp
          refine hK.out _ _ ⟨ρ, (by simp only [put, e10, e9]; rfl), fun _ _ => rfl, hW.store rfl rfl (by intro k q; omega) ((((Keep.refl (· = g) _).one _)).wide fun k q => Or.inr q) ⟨max x.sent y.sent, (hW.sr hl).high (B := w.heap.size + 3) (by (repeat' (first | (with_reducible exact Below.refl _ _) | (with_reducible assumption) | (with_reducible refine Below.alloc ?_ ?_ _) | (with_reducible refine Below.drew ?_) | (with_reducible refine Below.drewN' ?_ _) | (with_reducible refine Below.setCell ?_ ?_ _) | (refine Below.via ?_ (by with_reducible assumption) ?_) | (with_reducible refine Below.via ?_ (Wd.h _) ?_) | go_size))) (by omega), bx4 (by simp; omega) (by simp [go_sem, xx0, xx1, xx2, xx3]) (by simp [go_sem, xf0]) (by simp [go_sem, xx0, xx1, xx2, xx3]) (by simp [go_sem, xf1]) (by simp [go_sem, xx0, xx1, xx2, xx3]) (by simp [go_sem, xf2]) (by simp [go_sem, xx0, xx1, xx2, xx3]) (by simp [go_sem, xf3])⟩⟩
      · intro L ρ u wx hall hu hW
        obtain ⟨v, hsv, hbv⟩ := hW.t1 (hall 11 (by show 11 < 12; omega))
        have H7 := Lib.hid (H6.out.keep2 (by omega) hW.kp hsv)
        have HX7 := Lib.hid hbv
        have hk7 := hW.kp.size
        clear hu hall hW hsv hbv H6 HX HS2
        rename World => w7
        have hzk7 := H7.out.b1.lt
        have hzs7 := H7.out.src.lt
        have hxx7 := HX7.out.lt
        go_wp2_with fail
        refine wp_region_tb (R := Zr) [some 45, some 46, some 47, some 48, some 49, some 50, some 51, some 52, none] _ (by intro u; simp only [frs, Act.put, List.setIfInBounds_toArray, List.set_cons_zero, List.set_cons_succ, Nat.reduceAdd]; exact rfl) (fun ρ j => ([.pointer (some ⟨g, 3, none⟩), .int .i64 x.am, .pointer (some ⟨w.heap.size + 2, 0, none⟩), .int .i64 (ρ.r 3), .int .i64 (x.am + ρ.r 3), .int .i64 (x.am + ρ.r 3 - 30), .int .i64 (max 0 (x.am + ρ.r 3 - 30)), .pointer (some ⟨g, 3, none⟩), undef] : List Value).getD j undef) (WZ (w.heap.size + 2) (fun k => k = g) [(3, 60)] [] 8 (fun wt => Bx wt g (Nom.cells ⟨x.con, x.hr, v, x.am⟩)) (fun _ wt => ∃ am2 : Int, Src wt (w.heap.size + 2) ∧ Bx wt g (Nom.cells ⟨x.con, x.hr, v, am2⟩)) w7) (by kernel_rfl) (by kernel_rfl) Zr.zero (WZ.start (Keep.of_below _ (Below.drew (Below.refl _ _))) (H7.out.src.below (Below.drew (Below.refl _ _))) (HX7.out.below (Below.drew (Below.refl w7.heap.size _)) HX7.out.lt)) ?_ ?_
        · intro ii hii L ρ u wx hl hp hc hu hn hW
          have hii : ii < 9 := hii
          have HNo := Lib.hid hn
          clear hn
          have hii : ii = 0 ∨ ii = 1 ∨ ii = 2 ∨ ii = 3 ∨ ii = 4 ∨ ii = 5 ∨ ii = 6 ∨ ii = 7 ∨ ii = 8 := by omega
          rcases hii with rfl | rfl | rfl | rfl | rfl | rfl | rfl | rfl | rfl
          · refine wpOp_go (E := True) rfl rfl (fun K' hK => ?_)
            go_simp
            refine hK.out _ _ ⟨ρ, (by simp only [put]; rfl), fun _ _ => rfl, hW.pure rfl rfl (by omega)⟩
          · have e0 : u 0 = .pointer (some ⟨g, 3, none⟩) := hu 0 (all_of hp (by kernel_rfl))
            have xx3 := (hW.t0 (no_later (i := 6) hc (no_later (i := 5) hc (no_later (i := 4) hc (no_later hc hl (by kernel_rfl)) (by kernel_rfl)) (by kernel_rfl)) (by kernel_rfl))).cell 3 rfl
            refine wpOp_go (E := True) rfl rfl (fun K' hK => ?_)
            go_simp
            refine hK.out _ _ ⟨ρ, (by simp only [put, e0]; rfl), fun _ _ => rfl, hW.pure rfl rfl (by omega)⟩
          · refine wpOp_go (E := True) rfl rfl (fun K' hK => ?_)
            go_simp
            refine hK.out _ _ ⟨ρ, (by simp only [put]; rfl), fun _ _ => rfl, hW.pure rfl rfl (by omega)⟩
          · have e2 : u 2 = .pointer (some ⟨w.heap.size + 2, 0, none⟩) := hu 2 (all_of hp (by kernel_rfl))
            have nks : L 8 = false := no_later hc hl (by kernel_rfl)
            refine wpOp_go (E := True) rfl rfl (fun K' hK => ?_)
            go_simp
            go_at_call 34
            refine (spec_l01Next _ _ _ (hW.sr nks) (by omega)).mono ?_
            rintro e' w5 ⟨r, rfl, ra, _, rb, hs5, hk5⟩
            have rc := rb (by omega)
            refine hK.out _ _ ⟨ρ.drawn 3 r, (by simp only [put, e2]; rfl), fun j hj => by
                have n4 : L 4 = false := no_later hc hl (by kernel_rfl)
                have n5 : L 5 = false := no_later hc n4 (by kernel_rfl)
                have n6 : L 6 = false := no_later hc n5 (by kernel_rfl)
                have n8 : L 8 = false := no_later hc n6 (by kernel_rfl)
                match j, hj with
                | 0, _ => rfl
                | 1, _ => rfl
                | 2, _ => rfl
                | 3, hj => rw [hl] at hj; cases hj
                | 4, hj => rw [n4] at hj; cases hj
                | 5, hj => rw [n5] at hj; cases hj
                | 6, hj => rw [n6] at hj; cases hj
                | 7, _ => rfl
                | 8, hj => rw [n8] at hj; cases hj
                | _ + 9, _ => rfl, hW.call rfl (by omega) nks (by omega) hk5 hs5 (fun h1 => h1.keep hk5 (by omega)) (by intro n hn; simp at hn; omega)⟩
          · have e1 : u 1 = .int .i64 x.am := hu 1 (all_of hp (by kernel_rfl))
            have e3 : u 3 = .int .i64 (ρ.r 3) := hu 3 (all_of hp (by kernel_rfl))
            obtain ⟨ra3, rb3⟩ := hW.dr 3 (60) (by simp) (all_of hp (by kernel_rfl))
            have hwr4 := IntWalk.i64_in (x.am + ρ.r 3) ⟨by omega, by omega⟩
            refine wpOp_go (E := True) rfl rfl (fun K' hK => ?_)
            go_simp
            refine hK.out _ _ ⟨ρ, (by simp only [put, e1, e3, hwr4]; rfl), fun _ _ => rfl, hW.pure rfl rfl (by omega)⟩
          · have e4 : u 4 = .int .i64 (x.am + ρ.r 3) := hu 4 (all_of hp (by kernel_rfl))
            obtain ⟨ra3, rb3⟩ := hW.dr 3 (60) (by simp) (all_of (hc 4 (all_of hp (by kernel_rfl))) (by kernel_rfl))
            have hwr5 := IntWalk.i64_in (x.am + ρ.r 3 - 30) ⟨by omega, by omega⟩
            refine wpOp_go (E := True) rfl rfl (fun K' hK => ?_)
            go_simp
            refine hK.out _ _ ⟨ρ, (by simp only [put, e4, hwr5]; rfl), fun _ _ => rfl, hW.pure rfl rfl (by omega)⟩
          · have e5 : u 5 = .int .i64 (x.am + ρ.r 3 - 30) := hu 5 (all_of hp (by kernel_rfl))
            obtain ⟨ra3, rb3⟩ := hW.dr 3 (60) (by simp) (all_of (hc 4 (all_of (hc 5 (all_of hp (by kernel_rfl))) (by kernel_rfl))) (by kernel_rfl))
            refine wpOp_go (E := True) rfl rfl (fun K' hK => ?_)
            go_simp
            refine hK.out _ _ ⟨ρ, (by simp only [put, e5]; rfl), fun _ _ => rfl, hW.pure rfl rfl (by omega)⟩
          · refine wpOp_go (E := True) rfl rfl (fun K' hK => ?_)
            go_simp
            refine hK.out _ _ ⟨ρ, (by simp only [put]; rfl), fun _ _ => rfl, hW.pure rfl rfl (by omega)⟩
          · have e7 : u 7 = .pointer (some ⟨g, 3, none⟩) := hu 7 (all_of hp (by kernel_rfl))
            have e6 : u 6 = .int .i64 (max 0 (x.am + ρ.r 3 - 30)) := hu 6 (all_of hp (by kernel_rfl))
            obtain ⟨ra3, rb3⟩ := hW.dr 3 (60) (by simp) (all_of (hc 4 (all_of (hc 5 (all_of (hc 6 (all_of hp (by kernel_rfl))) (by kernel_rfl))) (by kernel_rfl))) (by kernel_rfl))
            have hb0 := hW.t0 hl
            have hyX := hb0.lt
            have xx0 := hb0.cell 0 rfl
            have xx1 := hb0.cell 1 rfl
            have xx2 := hb0.cell 2 rfl
            have xx3 := hb0.cell 3 rfl
            have xf0 := hb0.frozen 0 rfl
            have xf1 := hb0.frozen 1 rfl
            have xf2 := hb0.frozen 2 rfl
            have xf3 := hb0.frozen 3 rfl
            clear hb0
            refine wpOp_go (E := True) rfl rfl (fun K' hK => ?_)
            go_simp
            refine hK.out _ _ ⟨ρ, (by simp only [put, e7, e6]; rfl), fun _ _ => rfl, hW.store rfl rfl (by intro k q; omega) ((((Keep.refl (· = g) _).one _)).wide fun k q => Or.inr q) ⟨max 0 (x.am + ρ.r 3 - 30), (hW.sr hl).high (B := w.heap.size + 3) (by (repeat' (first | (with_reducible exact Below.refl _ _) | (with_reducible assumption) | (with_reducible refine Below.alloc ?_ ?_ _) | (with_reducible refine Below.drew ?_) | (with_reducible refine Below.drewN' ?_ _) | (with_reducible refine Below.setCell ?_ ?_ _) | (refine Below.via ?_ (by with_reducible assumption) ?_) | (with_reducible refine Below.via ?_ (Wd.h _) ?_) | go_size))) (by omega), bx4 (by simp; omega) (by simp [go_sem, xx0, xx1, xx2, xx3]) (by simp [go_sem, xf0]) (by simp [go_sem, xx0, xx1, xx2, xx3]) (by simp [go_sem, xf1]) (by simp [go_sem, xx0, xx1, xx2, xx3]) (by simp [go_sem, xf2]) (by simp [go_sem, xx0, xx1, xx2, xx3]) (by simp [go_sem, xf3])⟩⟩
        · intro L ρ u wx hall hu hW
          obtain ⟨am2, hsv, hbv⟩ := hW.t1 (hall 8 (by show 8 < 9; omega))
          have H8 := Lib.hid (H7.out.keep2 (by omega) hW.kp hsv)
          have HX8 := Lib.hid hbv
          have hk8 := hW.kp.size
          clear hu hall hW hsv hbv H7 HX7
          rename World => w8
          have hzk := H8.out.b1.lt
          have hzs := H8.out.src.lt
          have hxx8 := HX8.out.lt
          go_wp2_with fail
          refine wp_region_tb (R := Zr) [some 53, some 54, some 55, some 56, none, some 3, some 4, none] _ (by intro u; simp only [frs, Act.put, List.setIfInBounds_toArray, List.set_cons_zero, List.set_cons_succ, Nat.reduceAdd]; exact rfl) (fun ρ j => ([.agg #[.slice A N.nodes.length c, .slice Bq N.pipes.length d], .slice Al lb.length cl, .slice (some ⟨bx, offx, none⟩) ln.length cn, .agg #[.int .i64 x.con, .int .i64 x.hr, .int .i64 v, .int .i64 am2], undef, .slice Al lb.length cl, .slice (some ⟨bx, offx, none⟩) ln.length cn, undef] : List Value).getD j undef) (WW (w.heap.size + 2) w.heap.size (w.heap.size + 1) 4 7 99 [.slice A N.nodes.length c, .slice Bq N.pipes.length d] (fun _ => Nom.cells ⟨x.con, x.hr, v, am2⟩) w8) (by kernel_rfl) (by kernel_rfl) Zr.zero (WW.start (Keep.of_below _ (Below.drew (Below.refl _ _))) (H8.out.src.below (Below.drew (Below.refl _ _))) (H8.out.b0.below (Below.drew (Below.refl w8.heap.size _)) H8.out.b0.lt) (H8.out.b1.below (Below.drew (Below.refl w8.heap.size _)) H8.out.b1.lt)) ?_ ?_
          · intro ii hii L ρ u wx hl hp hc hu hn hW
            have hii : ii < 8 := hii
            have HNo := Lib.hid hn
            clear hn
            have hii : ii = 0 ∨ ii = 1 ∨ ii = 2 ∨ ii = 3 ∨ ii = 4 ∨ ii = 5 ∨ ii = 6 ∨ ii = 7 := by omega
            rcases hii with rfl | rfl | rfl | rfl | rfl | rfl | rfl | rfl
            · have hbX := H8.out.bX.keep hW.kp (fun q => by omega)
              have xx0 := hbX.cell 0 rfl
              have xx1 := hbX.cell 1 rfl
              clear hbX
              refine wpOp_go (E := True) rfl rfl (fun K' hK => ?_)
              go_simp
              refine hK.out _ _ ⟨ρ, (by simp only [put]; rfl), fun _ _ => rfl, hW.pure (by omega) (by omega)⟩
            · refine wpOp_go (E := True) rfl rfl (fun K' hK => ?_)
              go_simp
              refine hK.out _ _ ⟨ρ, (by simp only [put]; rfl), fun _ _ => rfl, hW.pure (by omega) (by omega)⟩
            · refine wpOp_go (E := True) rfl rfl (fun K' hK => ?_)
              go_simp
              refine hK.out _ _ ⟨ρ, (by simp only [put]; rfl), fun _ _ => rfl, hW.pure (by omega) (by omega)⟩
            · have hbX := HX8.out.keep hW.kp (fun q => by omega)
              have xx0 := hbX.cell 0 rfl
              have xx1 := hbX.cell 1 rfl
              have xx2 := hbX.cell 2 rfl
              have xx3 := hbX.cell 3 rfl
              clear hbX
              refine wpOp_go (E := True) rfl rfl (fun K' hK => ?_)
              go_simp
              refine hK.out _ _ ⟨ρ, (by simp only [put]; rfl), fun _ _ => rfl, hW.pure (by omega) (by omega)⟩
            · have e0 : u 0 = .agg #[.slice A N.nodes.length c, .slice Bq N.pipes.length d] := hu 0 (all_of hp (by kernel_rfl))
              have hb0 := hW.s1 hl
              have hyX := hb0.lt
              have xx0 := hb0.cell 0 rfl
              have xx1 := hb0.cell 1 rfl
              have xf0 := hb0.frozen 0 rfl
              have xf1 := hb0.frozen 1 rfl
              clear hb0
              refine wpOp_go (E := True) rfl rfl (fun K' hK => ?_)
              go_simp
              refine hK.out _ _ ⟨ρ, (by simp only [put, e0]; rfl), fun _ _ => rfl, hW.put1 (by omega) (((Keep.refl (· = w.heap.size) _).one _).one _) (by omega) (bx2 (by simp; omega) (by simp [go_sem, xx0, xx1]) (by simp [go_sem, xf0]) (by simp [go_sem, xx0, xx1]) (by simp [go_sem, xf1]))⟩
            · have e1 : u 1 = .slice Al lb.length cl := hu 1 (all_of hp (by kernel_rfl))
              refine wpOp_go (E := True) rfl rfl (fun K' hK => ?_)
              go_simp
              refine hK.out _ _ ⟨ρ, (by simp only [put, e1]; rfl), fun _ _ => rfl, hW.pure (by omega) (by omega)⟩
            · have e2 : u 2 = .slice (some ⟨bx, offx, none⟩) ln.length cn := hu 2 (all_of hp (by kernel_rfl))
              refine wpOp_go (E := True) rfl rfl (fun K' hK => ?_)
              go_simp
              refine hK.out _ _ ⟨ρ, (by simp only [put, e2]; rfl), fun _ _ => rfl, hW.pure (by omega) (by omega)⟩
            · have e3 : u 3 = .agg #[.int .i64 x.con, .int .i64 x.hr, .int .i64 v, .int .i64 am2] := hu 3 (all_of hp (by kernel_rfl))
              have hb0 := hW.s2 hl
              have hyX := hb0.lt
              have xx0 := hb0.cell 0 rfl
              have xx1 := hb0.cell 1 rfl
              have xx2 := hb0.cell 2 rfl
              have xx3 := hb0.cell 3 rfl
              have xf0 := hb0.frozen 0 rfl
              have xf1 := hb0.frozen 1 rfl
              have xf2 := hb0.frozen 2 rfl
              have xf3 := hb0.frozen 3 rfl
              clear hb0
              refine wpOp_go (E := True) rfl rfl (fun K' hK => ?_)
              go_simp
              refine hK.out _ _ ⟨ρ, (by simp only [put, e3]; rfl), fun _ _ => rfl, hW.put2 (by omega) ((((((Keep.refl (· = w.heap.size + 1) _).one _).one _).one _).one _)) (by omega) (bx4 (by simp; omega) (by simp [go_sem, xx0, xx1, xx2, xx3]) (by simp [go_sem, xf0]) (by simp [go_sem, xx0, xx1, xx2, xx3]) (by simp [go_sem, xf1]) (by simp [go_sem, xx0, xx1, xx2, xx3]) (by simp [go_sem, xf2]) (by simp [go_sem, xx0, xx1, xx2, xx3]) (by simp [go_sem, xf3]))⟩
          · intro L ρ u wx hall hu hW
            have hb0 := hW.t1 (hall 4 (by show 4 < 8; omega))
            have hb1 := hW.t2 (hall 7 (by show 7 < 8; omega))
            have cw0_0 := hb0.cell 0 rfl
            have cw0_1 := hb0.cell 1 rfl
            have cw1_0 := hb1.cell 0 rfl
            have cw1_1 := hb1.cell 1 rfl
            have cw1_2 := hb1.cell 2 rfl
            have cw1_3 := hb1.cell 3 rfl
            have eR0 : u 5 = .slice Al lb.length cl := hu 5 (by show 5 < 8; omega)
            have eR1 : u 6 = .slice (some ⟨bx, offx, none⟩) ln.length cn := hu 6 (by show 6 < 8; omega)
            have hkp := hW.kp
            clear hu hall hW hb0 hb1
            go_wp2
            refine bodyPost_ret (by simp [results, Try.results7, go_sem, cw0_0, cw0_1, cw1_0, cw1_1, cw1_2, cw1_3]; try rfl) rfl ?_
            have := dv_post (cl := cl) (cn := cn) ⟨x.con, x.hr, v, am2⟩ H8.out hkp hnc hl33 hn201
            simpa [netV, eR0, eR1, nomOf] using this
    · have b0 : (z == 0) = false := by simpa using z0
      go_wp2_with fail
      have hzk := H4.out.b1.lt
      have hzs := H4.out.src.lt
      refine wp_region_tb (R := Zr) [some 57, some 58, some 59, some 60, some 61, some 62, none, some 3, some 4, none] _ (by intro u; simp only [frs, Act.put, List.setIfInBounds_toArray, List.set_cons_zero, List.set_cons_succ, Nat.reduceAdd]; exact rfl) (fun ρ j => ([.agg #[.slice A N.nodes.length c, .slice Bq N.pipes.length d], .slice Al lb.length cl, .slice An ln.length cn, .pointer (some ⟨w.heap.size + 2, 0, none⟩), .slice Al lb.length cl, (nomOf (ρ.c 5)).val, undef, .slice Al lb.length cl, .slice An ln.length cn, undef] : List Value).getD j undef) (WW (w.heap.size + 2) w.heap.size (w.heap.size + 1) 6 9 5 [.slice A N.nodes.length c, .slice Bq N.pipes.length d] (fun ρ => (nomOf (ρ.c 5)).cells) w4) (by kernel_rfl) (by kernel_rfl) Zr.zero (WW.start (Keep.of_below _ (Below.drew (Below.refl _ _))) (H4.out.src.below (Below.drew (Below.refl _ _))) (H4.out.b0.below (Below.drew (Below.refl w4.heap.size _)) H4.out.b0.lt) (H4.out.b1.below (Below.drew (Below.refl w4.heap.size _)) H4.out.b1.lt)) ?_ ?_
      · intro ii hii L ρ u wx hl hp hc hu hn hW
        have hii : ii < 10 := hii
        have HNo := Lib.hid hn
        clear hn
        have hii : ii = 0 ∨ ii = 1 ∨ ii = 2 ∨ ii = 3 ∨ ii = 4 ∨ ii = 5 ∨ ii = 6 ∨ ii = 7 ∨ ii = 8 ∨ ii = 9 := by omega
        rcases hii with rfl | rfl | rfl | rfl | rfl | rfl | rfl | rfl | rfl | rfl
        · have hbX := H4.out.bX.keep hW.kp (fun q => by omega)
          have xx0 := hbX.cell 0 rfl
          have xx1 := hbX.cell 1 rfl
          clear hbX
          refine wpOp_go (E := True) rfl rfl (fun K' hK => ?_)
          go_simp
          refine hK.out _ _ ⟨ρ, (by simp only [put]; rfl), fun _ _ => rfl, hW.pure (by omega) (by omega)⟩
        · refine wpOp_go (E := True) rfl rfl (fun K' hK => ?_)
          go_simp
          refine hK.out _ _ ⟨ρ, (by simp only [put]; rfl), fun _ _ => rfl, hW.pure (by omega) (by omega)⟩
        · refine wpOp_go (E := True) rfl rfl (fun K' hK => ?_)
          go_simp
          refine hK.out _ _ ⟨ρ, (by simp only [put]; rfl), fun _ _ => rfl, hW.pure (by omega) (by omega)⟩
        · refine wpOp_go (E := True) rfl rfl (fun K' hK => ?_)
          go_simp
          refine hK.out _ _ ⟨ρ, (by simp only [put]; rfl), fun _ _ => rfl, hW.pure (by omega) (by omega)⟩
        · refine wpOp_go (E := True) rfl rfl (fun K' hK => ?_)
          go_simp
          refine hK.out _ _ ⟨ρ, (by simp only [put]; rfl), fun _ _ => rfl, hW.pure (by omega) (by omega)⟩
        · have e3 : u 3 = .pointer (some ⟨w.heap.size + 2, 0, none⟩) := hu 3 (all_of hp (by kernel_rfl))
          have e4 : u 4 = .slice Al lb.length cl := hu 4 (all_of hp (by kernel_rfl))
          have n1 : L 6 = false := no_later hc hl (by kernel_rfl)
          have n2 : L 9 = false := no_later hc hl (by kernel_rfl)
          refine wpOp_go (E := True) rfl rfl (fun K' hK => ?_)
          go_simp
          go_at_call 35
          refine (spec_l21DrawOne (w.heap.size + 2) Al cl lb (-10) _ (hW.sr n1 n2) (H4.out.rd.keep hW.kp (fun b off e q => by have := H4.out.lL b off e; omega)) (fun b off e q => by have := H4.out.lL b off e; omega) hl33 HOK.out (by omega)).mono ?_
          rintro e' w5 ⟨y, rfl, -, hs5, hk5⟩
          refine hK.out _ _ ⟨ρ.made 5 0 [y.con, y.hr, y.sent, y.am], (by simp only [put, e3, e4]; rfl), fun j hj => by
              have n9 : L 9 = false := no_later hc hl (by kernel_rfl)
              match j, hj with
              | 0, _ => rfl
              | 1, _ => rfl
              | 2, _ => rfl
              | 3, _ => rfl
              | 4, _ => rfl
              | 5, hj => rw [hl] at hj; cases hj
              | 6, _ => rfl
              | 7, _ => rfl
              | 8, _ => rfl
              | 9, hj => rw [n9] at hj; cases hj
              | _ + 10, _ => rfl, hW.call (by omega) (by omega) n1 n2 hk5 hs5 (by omega) (by omega)⟩
        · have e0 : u 0 = .agg #[.slice A N.nodes.length c, .slice Bq N.pipes.length d] := hu 0 (all_of hp (by kernel_rfl))
          have hb0 := hW.s1 hl
          have hyX := hb0.lt
          have xx0 := hb0.cell 0 rfl
          have xx1 := hb0.cell 1 rfl
          have xf0 := hb0.frozen 0 rfl
          have xf1 := hb0.frozen 1 rfl
          clear hb0
          refine wpOp_go (E := True) rfl rfl (fun K' hK => ?_)
          go_simp
          refine hK.out _ _ ⟨ρ, (by simp only [put, e0]; rfl), fun _ _ => rfl, hW.put1 (by omega) (((Keep.refl (· = w.heap.size) _).one _).one _) (by omega) (bx2 (by simp; omega) (by simp [go_sem, xx0, xx1]) (by simp [go_sem, xf0]) (by simp [go_sem, xx0, xx1]) (by simp [go_sem, xf1]))⟩
        · have e1 : u 1 = .slice Al lb.length cl := hu 1 (all_of hp (by kernel_rfl))
          refine wpOp_go (E := True) rfl rfl (fun K' hK => ?_)
          go_simp
          refine hK.out _ _ ⟨ρ, (by simp only [put, e1]; rfl), fun _ _ => rfl, hW.pure (by omega) (by omega)⟩
        · have e2 : u 2 = .slice An ln.length cn := hu 2 (all_of hp (by kernel_rfl))
          refine wpOp_go (E := True) rfl rfl (fun K' hK => ?_)
          go_simp
          refine hK.out _ _ ⟨ρ, (by simp only [put, e2]; rfl), fun _ _ => rfl, hW.pure (by omega) (by omega)⟩
        · have e5 : u 5 = (nomOf (ρ.c 5)).val := hu 5 (all_of hp (by kernel_rfl))
          have hb0 := hW.s2 hl
          have hyX := hb0.lt
          have xx0 := hb0.cell 0 rfl
          have xx1 := hb0.cell 1 rfl
          have xx2 := hb0.cell 2 rfl
          have xx3 := hb0.cell 3 rfl
          have xf0 := hb0.frozen 0 rfl
          have xf1 := hb0.frozen 1 rfl
          have xf2 := hb0.frozen 2 rfl
          have xf3 := hb0.frozen 3 rfl
          clear hb0
          refine wpOp_go (E := True) rfl rfl (fun K' hK => ?_)
          go_simp
          refine hK.out _ _ ⟨ρ, (by simp only [put, e5]; rfl), fun _ _ => rfl, hW.put2 (by omega) ((((((Keep.refl (· = w.heap.size + 1) _).one _).one _).one _).one _)) (by omega) (bx4 (by simp; omega) (by simp [go_sem, xx0, xx1, xx2, xx3]) (by simp [go_sem, xf0]) (by simp [go_sem, xx0, xx1, xx2, xx3]) (by simp [go_sem, xf1]) (by simp [go_sem, xx0, xx1, xx2, xx3]) (by simp [go_sem, xf2]) (by simp [go_sem, xx0, xx1, xx2, xx3]) (by simp [go_sem, xf3]))⟩
      · intro L ρ u wx hall hu hW
        have hb0 := hW.t1 (hall 6 (by show 6 < 10; omega))
        have hb1 := hW.t2 (hall 9 (by show 9 < 10; omega))
        have cw0_0 := hb0.cell 0 rfl
        have cw0_1 := hb0.cell 1 rfl
        have cw1_0 := hb1.cell 0 rfl
        have cw1_1 := hb1.cell 1 rfl
        have cw1_2 := hb1.cell 2 rfl
        have cw1_3 := hb1.cell 3 rfl
        have eR0 : u 7 = .slice Al lb.length cl := hu 7 (by show 7 < 10; omega)
        have eR1 : u 8 = .slice An ln.length cn := hu 8 (by show 8 < 10; omega)
        have hkp := hW.kp
        clear hu hall hW hb0 hb1
        go_wp2
        refine bodyPost_ret (by simp [results, Try.results7, go_sem, cw0_0, cw0_1, cw1_0, cw1_1, cw1_2, cw1_3]; try rfl) rfl ?_
        have := dv_post (cl := cl) (cn := cn) (nomOf (ρ.c 5)) H4.out hkp hnc hl33 hn201
        simpa [netV, eR0, eR1, nomOf] using this
end Go.Proofs.Ytigplpbdkjiekaa
namespace Go.Proofs.Ytigplpbdkjiekaa
set_option linter.unusedVariables false
set_option linter.unusedSimpArgs false
open Go.RowKit
/-- nothing is appended to an empty slice without capacity -/
theorem app_nothing {P : Program} {ops : Array Oper} {o : Oper} {a : Act} {w : World} {K : Act → World → Prop} {Q : Exit → Act → World → Prop} {E : Prop}
    (hgd : o.guard = none) (s x : Operand) (t : TypeId)
    (ho : o.op = .call { callee := .builtin .append, args := #[s, x], argTypes := #[t, t] })
    {e : TypeId} {z : Value} {size bytes : Nat} (hinfo : (P.info? e).map (fun i => (i.zero, i.size, i.bytes)) = some (some z, size, bytes)) (ht : P.underlying t = some (.slice e))
    (ao : Option Addr) (hs : a.eval s = .slice ao 0 0) (D : Option Addr) (c : Nat) (hx : a.eval x = .slice D 0 c)
    (h : K (a.put o.dst (.slice ao 0 0)) w) :
    if Region.wanted o (yielded ops a.tmps) = true then Oper.wp P o a w K Q else E := by
  have hw : Region.wanted o (yielded ops a.tmps) = true := by simp [Region.wanted, hgd]
  rw [if_pos hw]
  obtain ⟨i, hi, hz, hsize, hb⟩ := info_parts hinfo
  have hsrc : _root_.Go.Src P i.size t (.slice D 0 c) 0 [] w := by
    cases D with
    | none => exact Src.ofNil w ht c
    | some ad => exact Src.ofSlice w ht ad 0 c [] (by simp) (fun j u hu => by simp at hu) (fun u hu => by simp at hu)
  have hrun := run_append_nothing (P := P) w t t o.type e i ht hi ao 0 0 (Nat.le_refl _) (.slice D 0 c) hsrc
  unfold Oper.wp
  simp [execOp, ho, resolve, invoke, builtin, hs, hx, hrun, Result.andThen]
  exact h
theorem hisF_bd {con hr lo hi : Int} : ∀ {l : List Nom}, (∀ y ∈ l, lo ≤ y.am ∧ y.am ≤ hi) → ∀ a ∈ hisF con hr l, lo ≤ a ∧ a ≤ hi
  | [], _, a, ha => by simp [hisF] at ha
  | x :: l, h, a, ha => by
    unfold hisF at ha
    have ih := hisF_bd (con := con) (hr := hr) (l := l) (fun y hy => h y (by simp [hy]))
    split at ha
    · rcases List.mem_cons.1 ha with rfl | ha
      · exact h x (by simp)
      · exact ih a ha
    · exact ih a ha
def accB (lb : List Ctr) (ln : List Nom) (x : Nom) : Bool := !(lateB ln x) && !(farB lb ln x)
set_option maxRecDepth 100000 in
set_option maxHeartbeats 8000000 in
theorem spec_l21Acceptable (C D : Option Addr) (e f : Nat) (lb : List Ctr) (ln : List Nom) (x : Nom) (w : World) (h : Rd w C (lb.flatMap Ctr.cells)) (hl : lb.length ≤ 1048576) (h' : Rd w D (ln.flatMap Nom.cells)) (hl' : ln.length ≤ 1048576) (hk : CtrsOk lb) (hv : nomB lb x = true) (hy : ∀ y ∈ ln, 0 ≤ y.am ∧ y.am ≤ 30000) :
    Calls Try.prog 43 #[.slice C lb.length e, .slice D ln.length f, x.val] w fun e w' => e = .returned (.bool (accB lb ln x)) ∧ Below w.heap.size w w' := by
  have HB := Lib.hid h
  have HM := Lib.hid h'
  have HHB := Lib.hid (hisF_bd (con := x.con) (hr := x.hr) hy)
  obtain ⟨n1, n2, n3, n4, n5, n6, n7, n8⟩ := nomB_of hk hv
  obtain ⟨kc, hkc⟩ := Int.eq_ofNat_of_zero_le n1
  have HKC := Lib.hid hkc
  obtain ⟨cc, hcc⟩ := get_some (show kc < lb.length by omega)
  obtain ⟨bC, oC, rfl, hbC, hatC⟩ := HB.out.opened (k := kc) (by rw [flat_len Ctr.len]; omega)
  have tC := hatC.elem Ctr.len hcc 3 rfl
  obtain ⟨a1, a2⟩ := ctr_am hk (List.mem_of_getElem? hcc)
  have HCC := Lib.hid hcc
  have TC := Lib.hid tC
  clear h h' hk hv hy hatC hcc tC hkc
  go_enter Try.func43, Try.ntmps43
  go_wp2_with fail
  (generalize hW : (World.alloc w _) = wn; have hbn : Below w.heap.size w wn := (by rw [← hW]; (repeat' (first | (with_reducible exact Below.refl _ _) | (with_reducible assumption) | (with_reducible refine Below.alloc ?_ ?_ _) | (with_reducible refine Below.drew ?_) | (with_reducible refine Below.drewN' ?_ _) | (with_reducible refine Below.setCell ?_ ?_ _) | (refine Below.via ?_ (by with_reducible assumption) ?_) | (with_reducible refine Below.via ?_ (Wd.h _) ?_) | go_size))); have hzn := congrArg (fun W => W.heap.size) hW; simp at hzn; have cw0_0 := congrArg (fun W => World.cell? W ⟨w.heap.size, 0, none⟩) hW.symm; have fw0_0 := congrArg (fun W => World.frozen? W ⟨w.heap.size, 0, none⟩) hW.symm; have hy0 : w.heap.size < wn.heap.size := (by omega); have cw0_1 := congrArg (fun W => World.cell? W ⟨w.heap.size, 1, none⟩) hW.symm; have fw0_1 := congrArg (fun W => World.frozen? W ⟨w.heap.size, 1, none⟩) hW.symm; have cw0_2 := congrArg (fun W => World.cell? W ⟨w.heap.size, 2, none⟩) hW.symm; have fw0_2 := congrArg (fun W => World.frozen? W ⟨w.heap.size, 2, none⟩) hW.symm; have cw0_3 := congrArg (fun W => World.cell? W ⟨w.heap.size, 3, none⟩) hW.symm; have fw0_3 := congrArg (fun W => World.frozen? W ⟨w.heap.size, 3, none⟩) hW.symm; simp [go_sem] at cw0_0 fw0_0 cw0_1 fw0_1 cw0_2 fw0_2 cw0_3 fw0_3; clear hW hzn)
  have HBn := Lib.hid hbn
  clear hbn
  have HBX := Lib.hid (show Bx wn w.heap.size [.int .i64 x.con, .int .i64 x.hr, .int .i64 x.sent, .int .i64 x.am] from (bx4 (by first | exact hy0 | go_size) (by first | (with_reducible exact cw0_0) | go_cell_look | (simp [go_sem, hy0, cw0_0, fw0_0, cw0_1, fw0_1, cw0_2, fw0_2, cw0_3, fw0_3]; done) | (simp [go_sem]; done)) (by first | (with_reducible exact fw0_0) | (simp only [World.frozen?_setCell, fw0_0]; done) | (simp [go_sem, hy0, cw0_0, fw0_0, cw0_1, fw0_1, cw0_2, fw0_2, cw0_3, fw0_3]; done) | (simp [go_sem]; done)) (by first | (with_reducible exact cw0_1) | go_cell_look | (simp [go_sem, hy0, cw0_0, fw0_0, cw0_1, fw0_1, cw0_2, fw0_2, cw0_3, fw0_3]; done) | (simp [go_sem]; done)) (by first | (with_reducible exact fw0_1) | (simp only [World.frozen?_setCell, fw0_1]; done) | (simp [go_sem, hy0, cw0_0, fw0_0, cw0_1, fw0_1, cw0_2, fw0_2, cw0_3, fw0_3]; done) | (simp [go_sem]; done)) (by first | (with_reducible exact cw0_2) | go_cell_look | (simp [go_sem, hy0, cw0_0, fw0_0, cw0_1, fw0_1, cw0_2, fw0_2, cw0_3, fw0_3]; done) | (simp [go_sem]; done)) (by first | (with_reducible exact fw0_2) | (simp only [World.frozen?_setCell, fw0_2]; done) | (simp [go_sem, hy0, cw0_0, fw0_0, cw0_1, fw0_1, cw0_2, fw0_2, cw0_3, fw0_3]; done) | (simp [go_sem]; done)) (by first | (with_reducible exact cw0_3) | go_cell_look | (simp [go_sem, hy0, cw0_0, fw0_0, cw0_1, fw0_1, cw0_2, fw0_2, cw0_3, fw0_3]; done) | (simp [go_sem]; done)) (by first | (with_reducible exact fw0_3) | (simp only [World.frozen?_setCell, fw0_3]; done) | (simp [go_sem, hy0, cw0_0, fw0_0, cw0_1, fw0_1, cw0_2, fw0_2, cw0_3, fw0_3]; done) | (simp [go_sem]; done))))
  go_cut [22] (fun s22 wx => s22 = .bool (lateB ln x) ∧ Bx wx w.heap.size [.int .i64 x.con, .int .i64 x.hr, .int .i64 x.sent, .int .i64 x.am] ∧ Below w.heap.size w wx)
  case first =>
    rcases Nat.eq_zero_or_pos ln.length with hz | hp
    · obtain rfl : ln = [] := List.eq_nil_of_length_eq_zero hz
      have HRq := Lib.hid (show lateB [] x = false from rfl)
      clear hz
      (have qcw0_0 := Wd.cell hy0 cw0_0; have qcw0_1 := Wd.cell hy0 cw0_1; have qcw0_2 := Wd.cell hy0 cw0_2; have qcw0_3 := Wd.cell hy0 cw0_3; (refine wp_region_wd (by kernel_rfl) (by kernel_rfl) ?_); (repeat (go_big_quiet_step ((first | fail | (go_at_call 72; apply wd_pure; with_reducible exact (spec_l01Abs _ _ (by omega) (by omega))) | (go_at_call 72; exact wd_pure (spec_l01Abs _ _ (by omega) (by omega))))))); (refine wpQuiet_nil ?_); rintro wn ⟨⟨w'', hbn⟩, hw''⟩; obtain rfl : wn = w'' := hw''; clear qcw0_0 qcw0_1 qcw0_2 qcw0_3; (obtain ⟨hcn, hfn⟩ := bcell hbn; have hzn := hbn.size; (try simp at hzn); have Ncw0_0 := hcn (w.heap.size) (0) (by first | omega | (simp; done) | (simp; omega)); have Nfw0_0 := hfn (w.heap.size) (0) (by first | omega | (simp; done) | (simp; omega)); have Nhy0 : w.heap.size < wn.heap.size := (by omega); have Ncw0_1 := hcn (w.heap.size) (1) (by first | omega | (simp; done) | (simp; omega)); have Nfw0_1 := hfn (w.heap.size) (1) (by first | omega | (simp; done) | (simp; omega)); have Ncw0_2 := hcn (w.heap.size) (2) (by first | omega | (simp; done) | (simp; omega)); have Nfw0_2 := hfn (w.heap.size) (2) (by first | omega | (simp; done) | (simp; omega)); have Ncw0_3 := hcn (w.heap.size) (3) (by first | omega | (simp; done) | (simp; omega)); have Nfw0_3 := hfn (w.heap.size) (3) (by first | omega | (simp; done) | (simp; omega)); (first | (simp [go_sem, cw0_0, fw0_0, cw0_1, fw0_1, cw0_2, fw0_2, cw0_3, fw0_3, hy0] at Ncw0_0 Nfw0_0 Ncw0_1 Nfw0_1 Ncw0_2 Nfw0_2 Ncw0_3 Nfw0_3; clear cw0_0 fw0_0 cw0_1 fw0_1 cw0_2 fw0_2 cw0_3 fw0_3) | (simp [go_sem] at Ncw0_0 Nfw0_0 Ncw0_1 Nfw0_1 Ncw0_2 Nfw0_2 Ncw0_3 Nfw0_3)); clear hcn hfn; have cw0_0 := Ncw0_0; have fw0_0 := Nfw0_0; have cw0_1 := Ncw0_1; have fw0_1 := Nfw0_1; have cw0_2 := Ncw0_2; have fw0_2 := Nfw0_2; have cw0_3 := Ncw0_3; have fw0_3 := Nfw0_3; have hy0 := Nhy0; clear Ncw0_0 Nfw0_0 Ncw0_1 Nfw0_1 Ncw0_2 Nfw0_2 Ncw0_3 Nfw0_3 Nhy0))
      go_wp2_with fail
      go_meet
      exact ⟨by rw [HRq.out], HBX.out.below hbn HBX.out.lt, by have h1 := HBn.out; (repeat' (first | (with_reducible exact Below.refl _ _) | (with_reducible assumption) | (with_reducible refine Below.alloc ?_ ?_ _) | (with_reducible refine Below.drew ?_) | (with_reducible refine Below.drewN' ?_ _) | (with_reducible refine Below.setCell ?_ ?_ _) | (refine Below.via ?_ (by with_reducible assumption) ?_) | (with_reducible refine Below.via ?_ (Wd.h _) ?_) | go_size))⟩
    · obtain ⟨q, hq⟩ : ∃ q, ln.length = q + 1 := ⟨ln.length - 1, by omega⟩
      obtain ⟨y, hy⟩ := get_some (show q < ln.length by omega)
      have HLB := Lib.hid (lateB_last (x := x) hq hy)
      obtain ⟨by_, oy, rfl, hby, hat⟩ := HM.out.opened (k := q) (by rw [flat_len Nom.len]; omega)
      have hzn0 := HBn.out.size
      have q5 := Wd.cell (show by_ < wn.heap.size by omega) ((hat.below HBn.out hby).elem Nom.len hy 2 rfl)
      have p0 : decide ((0 : Int) < (ln.length : Int)) = true := by rw [decide_eq_true_eq]; omega
      have z1 : IntKind.i64.wrap ((ln.length : Int) - 1) = (q : Int) := by rw [IntWalk.i64_in _ (by omega)]; omega
      have g1 : (q : Int) < ln.length := by omega
      have g2 : (0 : Int) ≤ q := by omega
      clear hq hy hat
      (have qcw0_0 := Wd.cell hy0 cw0_0; have qcw0_1 := Wd.cell hy0 cw0_1; have qcw0_2 := Wd.cell hy0 cw0_2; have qcw0_3 := Wd.cell hy0 cw0_3; (refine wp_region_wd (by kernel_rfl) (by kernel_rfl) ?_); (repeat (go_big_quiet_step ((first | fail | (go_at_call 72; apply wd_pure; with_reducible exact (spec_l01Abs _ _ (by omega) (by omega))) | (go_at_call 72; exact wd_pure (spec_l01Abs _ _ (by omega) (by omega))))))); (refine wpQuiet_nil ?_); rintro wn ⟨⟨w'', hbn⟩, hw''⟩; obtain rfl : wn = w'' := hw''; clear qcw0_0 qcw0_1 qcw0_2 qcw0_3; (obtain ⟨hcn, hfn⟩ := bcell hbn; have hzn := hbn.size; (try simp at hzn); have Ncw0_0 := hcn (w.heap.size) (0) (by first | omega | (simp; done) | (simp; omega)); have Nfw0_0 := hfn (w.heap.size) (0) (by first | omega | (simp; done) | (simp; omega)); have Nhy0 : w.heap.size < wn.heap.size := (by omega); have Ncw0_1 := hcn (w.heap.size) (1) (by first | omega | (simp; done) | (simp; omega)); have Nfw0_1 := hfn (w.heap.size) (1) (by first | omega | (simp; done) | (simp; omega)); have Ncw0_2 := hcn (w.heap.size) (2) (by first | omega | (simp; done) | (simp; omega)); have Nfw0_2 := hfn (w.heap.size) (2) (by first | omega | (simp; done) | (simp; omega)); have Ncw0_3 := hcn (w.heap.size) (3) (by first | omega | (simp; done) | (simp; omega)); have Nfw0_3 := hfn (w.heap.size) (3) (by first | omega | (simp; done) | (simp; omega)); (first | (simp [go_sem, cw0_0, fw0_0, cw0_1, fw0_1, cw0_2, fw0_2, cw0_3, fw0_3, hy0] at Ncw0_0 Nfw0_0 Ncw0_1 Nfw0_1 Ncw0_2 Nfw0_2 Ncw0_3 Nfw0_3; clear cw0_0 fw0_0 cw0_1 fw0_1 cw0_2 fw0_2 cw0_3 fw0_3) | (simp [go_sem] at Ncw0_0 Nfw0_0 Ncw0_1 Nfw0_1 Ncw0_2 Nfw0_2 Ncw0_3 Nfw0_3)); clear hcn hfn; have cw0_0 := Ncw0_0; have fw0_0 := Nfw0_0; have cw0_1 := Ncw0_1; have fw0_1 := Nfw0_1; have cw0_2 := Ncw0_2; have fw0_2 := Nfw0_2; have cw0_3 := Ncw0_3; have fw0_3 := Nfw0_3; have hy0 := Nhy0; clear Ncw0_0 Nfw0_0 Ncw0_1 Nfw0_1 Ncw0_2 Nfw0_2 Ncw0_3 Nfw0_3 Nhy0))
      clear q5 z1
      go_wp2_with fail
      go_meet
      exact ⟨by rw [HLB.out], HBX.out.below hbn HBX.out.lt, by have h1 := HBn.out; (repeat' (first | (with_reducible exact Below.refl _ _) | (with_reducible assumption) | (with_reducible refine Below.alloc ?_ ?_ _) | (with_reducible refine Below.drew ?_) | (with_reducible refine Below.drewN' ?_ _) | (with_reducible refine Below.setCell ?_ ?_ _) | (refine Below.via ?_ (by with_reducible assumption) ?_) | (with_reducible refine Below.via ?_ (Wd.h _) ?_) | go_size))⟩
  case rest =>
    obtain ⟨rfl, hB1, hbc⟩ := hcut
    have HBX1 := Lib.hid hB1
    have HBC := Lib.hid hbc
    clear hy0 cw0_0 fw0_0 cw0_1 fw0_1 cw0_2 fw0_2 cw0_3 fw0_3
    clear HBX HBn hbc
    cases hlb : lateB ln x
    case true =>
      have HR := Lib.hid (show accB lb ln x = false by rw [accB, hlb]; rfl)
      go_wp2
      go_ret
      exact ⟨rbf HR.out, HBC.out⟩
    have HR1 := Lib.hid (show accB lb ln x = !(farB lb ln x) by rw [accB, hlb]; rfl)
    have hy0 := hB1.lt; have cw0_0 := hB1.cell 0 rfl; have fw0_0 := hB1.frozen 0 rfl; have cw0_1 := hB1.cell 1 rfl; have fw0_1 := hB1.frozen 1 rfl; have cw0_2 := hB1.cell 2 rfl; have fw0_2 := hB1.frozen 2 rfl; have cw0_3 := hB1.cell 3 rfl; have fw0_3 := hB1.frozen 3 rfl
    clear hB1
    go_wp2_with fail
    refine (spec_l21History _ _ ln x.con x.hr _ (HM.out.below HBC.out) hl').mono ?_
    rintro e w2 ⟨G, c2, rfl, hc2, hW2, hb2⟩
    have hB2 := HBX1.out.below hb2 HBX1.out.lt
    have HB2 := Lib.hid (HBC.out.trans (hb2.mono HBC.out.size))
    clear hy0 cw0_0 fw0_0 cw0_1 fw0_1 cw0_2 fw0_2 cw0_3 fw0_3
    have hy0 := hB2.lt; have cw0_0 := hB2.cell 0 rfl; have fw0_0 := hB2.frozen 0 rfl; have cw0_1 := hB2.cell 1 rfl; have fw0_1 := hB2.frozen 1 rfl; have cw0_2 := hB2.cell 2 rfl; have fw0_2 := hB2.frozen 2 rfl; have cw0_3 := hB2.cell 3 rfl; have fw0_3 := hB2.frozen 3 rfl
    have HRG := Lib.hid hW2.rd
    have hhl := hisF_len x.con x.hr ln
    clear hW2 hb2 hB2
    by_cases hq : x.hr - 6 < x.sent
    · have pq : decide (x.sent ≤ x.hr - 6) = false := by rw [decide_eq_false_iff_not]; omega
      rcases List.eq_nil_or_concat (hisF x.con x.hr ln) with hh | ⟨pre, a, hh⟩
      · have HR := Lib.hid (show accB lb ln x = true by rw [HR1.out, farB_nil hh]; rfl)
        have b1 : (((hisF x.con x.hr ln).length : Int) == 0) = true := by rw [hh]; rfl
        clear hh hq
        go_wp2
        go_ret
        exact ⟨rbt HR.out, HB2.out⟩
      · rw [List.concat_eq_append] at hh
        have HFS := Lib.hid (farB_some hq hh HKC.out HCC.out)
        have b1 : (((hisF x.con x.hr ln).length : Int) == 0) = false := by rw [hh, beq_eq_false_iff_ne]; simp; omega
        have hp : 0 < (hisF x.con x.hr ln).length := by rw [hh]; simp
        have hg : (hisF x.con x.hr ln)[(hisF x.con x.hr ln).length - 1]? = some a := by rw [hh]; simp
        have hba := HHB.out a (by rw [hh]; simp)
        obtain ⟨hba1, hba2⟩ := hba
        obtain ⟨q, hq2⟩ : ∃ q, (hisF x.con x.hr ln).length = q + 1 := ⟨(hisF x.con x.hr ln).length - 1, by omega⟩
        rw [hq2, Nat.add_sub_cancel] at hg
        obtain ⟨bx, ox, rfl, hbx, hat⟩ := HRG.out.opened (k := q) (by simp; omega)
        have q5 := Wd.cell hbx (ints_at hat hg)
        have hzb := HB2.out.size
        have q6 := Wd.cell (show bC < w2.heap.size by omega) (bc HB2.out hbC TC.out)
        obtain ⟨hn, hhn⟩ : ∃ hn, hn = (hisF x.con x.hr ln).length := ⟨_, rfl⟩
        rw [← hhn] at b1 hq2 hp hhl
        have z1 : IntKind.i64.wrap ((hn : Int) - 1) = (q : Int) := by rw [IntWalk.i64_in _ (by omega)]; omega
        have g1 : (q : Int) < hn := by omega
        have g2 : (0 : Int) ≤ q := by omega
        have gc : (kc : Int) < lb.length := by have := (List.getElem?_eq_some_iff.1 HCC.out).1; omega
        have hxc := HKC.out
        have hd2 : Int.tdiv cc.am 2 = cc.am / 2 := Int.tdiv_eq_ediv_of_nonneg a1
        rw [← hhn]
        clear hh hq hg hat hq2 hhn hp
        go_wp2_with fail
        (have qcw0_0 := Wd.cell hy0 cw0_0; have qcw0_1 := Wd.cell hy0 cw0_1; have qcw0_2 := Wd.cell hy0 cw0_2; have qcw0_3 := Wd.cell hy0 cw0_3; (refine wp_region_wd (by kernel_rfl) (by kernel_rfl) ?_); (repeat (go_big_quiet_step ((first | fail | (go_at_call 72; apply wd_pure; with_reducible exact (spec_l01Abs _ _ (by omega) (by omega))) | (go_at_call 72; exact wd_pure (spec_l01Abs _ _ (by omega) (by omega))))))); (refine wpQuiet_nil ?_); rintro wn ⟨⟨w'', hbn⟩, hw''⟩; obtain rfl : wn = w'' := hw''; clear qcw0_0 qcw0_1 qcw0_2 qcw0_3; (obtain ⟨hcn, hfn⟩ := bcell hbn; have hzn := hbn.size; (try simp at hzn); have Ncw0_0 := hcn (w.heap.size) (0) (by first | omega | (simp; done) | (simp; omega)); have Nfw0_0 := hfn (w.heap.size) (0) (by first | omega | (simp; done) | (simp; omega)); have Nhy0 : w.heap.size < wn.heap.size := (by omega); have Ncw0_1 := hcn (w.heap.size) (1) (by first | omega | (simp; done) | (simp; omega)); have Nfw0_1 := hfn (w.heap.size) (1) (by first | omega | (simp; done) | (simp; omega)); have Ncw0_2 := hcn (w.heap.size) (2) (by first | omega | (simp; done) | (simp; omega)); have Nfw0_2 := hfn (w.heap.size) (2) (by first | omega | (simp; done) | (simp; omega)); have Ncw0_3 := hcn (w.heap.size) (3) (by first | omega | (simp; done) | (simp; omega)); have Nfw0_3 := hfn (w.heap.size) (3) (by first | omega | (simp; done) | (simp; omega)); (first | (simp [go_sem, cw0_0, fw0_0, cw0_1, fw0_1, cw0_2, fw0_2, cw0_3, fw0_3, hy0] at Ncw0_0 Nfw0_0 Ncw0_1 Nfw0_1 Ncw0_2 Nfw0_2 Ncw0_3 Nfw0_3; clear cw0_0 fw0_0 cw0_1 fw0_1 cw0_2 fw0_2 cw0_3 fw0_3) | (simp [go_sem] at Ncw0_0 Nfw0_0 Ncw0_1 Nfw0_1 Ncw0_2 Nfw0_2 Ncw0_3 Nfw0_3)); clear hcn hfn; have cw0_0 := Ncw0_0; have fw0_0 := Nfw0_0; have cw0_1 := Ncw0_1; have fw0_1 := Nfw0_1; have cw0_2 := Ncw0_2; have fw0_2 := Nfw0_2; have cw0_3 := Ncw0_3; have fw0_3 := Nfw0_3; have hy0 := Nhy0; clear Ncw0_0 Nfw0_0 Ncw0_1 Nfw0_1 Ncw0_2 Nfw0_2 Ncw0_3 Nfw0_3 Nhy0))
        clear q5 q6 z1
        go_wp2
        go_ret
        refine ⟨?_, HB2.out.trans (hbn.mono HB2.out.size)⟩
        rw [HR1.out, HFS.out]
        exact rb (by simp)
    · have pq : decide (x.sent ≤ x.hr - 6) = true := by rw [decide_eq_true_eq]; omega
      have HR := Lib.hid (show accB lb ln x = true by rw [HR1.out, farB_early hq]; rfl)
      clear hq
      go_wp2
      go_ret
      exact ⟨rbt HR.out, HB2.out⟩
theorem accB_t {lb : List Ctr} {ln : List Nom} {x : Nom} (h : accB lb ln x = true) : lateB ln x = false ∧ farB lb ln x = false := by
  unfold accB at h; revert h; cases lateB ln x <;> cases farB lb ln x <;> simp
theorem accB_f {lb : List Ctr} {ln : List Nom} {x : Nom} {N : Net} (h : accB lb ln x = false) (h0 : nomsC N lb ln = 0) (hv : nomB lb x = true) : acR N lb ln x = ([], 7) := by
  unfold accB at h
  cases h1 : lateB ln x
  · cases h2 : farB lb ln x
    · rw [h1, h2] at h; cases h
    · simp [acR, h0, hv, h1, h2]
  · simp [acR, h0, hv, h1]
set_option maxRecDepth 100000 in
set_option maxHeartbeats 8000000 in
theorem spec_AcceptNomination (A B C D : Option Addr) (n c m d e f : Nat) (N : Net) (lb : List Ctr) (ln : List Nom) (x : Nom) (w : World) (hN : NetAt w A B N) (hn : n = N.nodes.length) (hm : m = N.pipes.length) (h : Rd w C (lb.flatMap Ctr.cells)) (hl : lb.length ≤ 1048576) (h' : Rd w D (ln.flatMap Nom.cells)) (hl' : ln.length ≤ 1048576) :
    Calls Try.prog 9 #[netV A B n c m d, .slice C lb.length e, .slice D ln.length f, x.val] w (MadeR w 4 (acR N lb ln x).1.length ((acR N lb ln x).1.flatMap Nom.cells) (acR N lb ln x).2) := by
  subst hn hm
  have HN := Lib.hid hN
  have HB := Lib.hid h
  have HM := Lib.hid h'
  have hln := hN.ln
  clear hN h h'
  go_enter Try.func9, Try.ntmps9
  go_wp2_with fail
  
  refine (spec_l21Code _ _ _ _ _ _ _ _ _ _ N lb ln _ (HN.out.below (by (repeat' (first | (with_reducible exact Below.refl _ _) | (with_reducible assumption) | (with_reducible refine Below.alloc ?_ ?_ _) | (with_reducible refine Below.drew ?_) | (with_reducible refine Below.drewN' ?_ _) | (with_reducible refine Below.setCell ?_ ?_ _) | (refine Below.via ?_ (by with_reducible assumption) ?_) | (with_reducible refine Below.via ?_ (Wd.h _) ?_) | go_size)))) rfl rfl (HB.out.below (by (repeat' (first | (with_reducible exact Below.refl _ _) | (with_reducible assumption) | (with_reducible refine Below.alloc ?_ ?_ _) | (with_reducible refine Below.drew ?_) | (with_reducible refine Below.drewN' ?_ _) | (with_reducible refine Below.setCell ?_ ?_ _) | (refine Below.via ?_ (by with_reducible assumption) ?_) | (with_reducible refine Below.via ?_ (Wd.h _) ?_) | go_size)))) hl (HM.out.below (by (repeat' (first | (with_reducible exact Below.refl _ _) | (with_reducible assumption) | (with_reducible refine Below.alloc ?_ ?_ _) | (with_reducible refine Below.drew ?_) | (with_reducible refine Below.drewN' ?_ _) | (with_reducible refine Below.setCell ?_ ?_ _) | (refine Below.via ?_ (by with_reducible assumption) ?_) | (with_reducible refine Below.via ?_ (Wd.h _) ?_) | go_size)))) hl').mono ?_
  rintro e w1 ⟨rfl, hb1⟩
  (obtain ⟨hcn, hfn⟩ := bcell hb1; have hz1 := hb1.size; (try simp at hz1); have Ncw0_0 := hcn (w.heap.size) (0) (by first | omega | (simp; done) | (simp; omega)); have Nfw0_0 := hfn (w.heap.size) (0) (by first | omega | (simp; done) | (simp; omega)); have Nhy0 : w.heap.size < w1.heap.size := (by omega); have Ncw0_1 := hcn (w.heap.size) (1) (by first | omega | (simp; done) | (simp; omega)); have Nfw0_1 := hfn (w.heap.size) (1) (by first | omega | (simp; done) | (simp; omega)); have Ncw1_0 := hcn (w.heap.size + 1) (0) (by first | omega | (simp; done) | (simp; omega)); have Nfw1_0 := hfn (w.heap.size + 1) (0) (by first | omega | (simp; done) | (simp; omega)); have Nhy1 : w.heap.size + 1 < w1.heap.size := (by omega); have Ncw1_1 := hcn (w.heap.size + 1) (1) (by first | omega | (simp; done) | (simp; omega)); have Nfw1_1 := hfn (w.heap.size + 1) (1) (by first | omega | (simp; done) | (simp; omega)); have Ncw1_2 := hcn (w.heap.size + 1) (2) (by first | omega | (simp; done) | (simp; omega)); have Nfw1_2 := hfn (w.heap.size + 1) (2) (by first | omega | (simp; done) | (simp; omega)); have Ncw1_3 := hcn (w.heap.size + 1) (3) (by first | omega | (simp; done) | (simp; omega)); have Nfw1_3 := hfn (w.heap.size + 1) (3) (by first | omega | (simp; done) | (simp; omega)); simp [go_sem] at Ncw0_0 Nfw0_0 Ncw0_1 Nfw0_1 Ncw1_0 Nfw1_0 Ncw1_1 Nfw1_1 Ncw1_2 Nfw1_2 Ncw1_3 Nfw1_3; clear hcn hfn; have cw0_0 := Ncw0_0; have fw0_0 := Nfw0_0; have cw0_1 := Ncw0_1; have fw0_1 := Nfw0_1; have cw1_0 := Ncw1_0; have fw1_0 := Nfw1_0; have cw1_1 := Ncw1_1; have fw1_1 := Nfw1_1; have cw1_2 := Ncw1_2; have fw1_2 := Nfw1_2; have cw1_3 := Ncw1_3; have fw1_3 := Nfw1_3; have hy0 := Nhy0; have hy1 := Nhy1; clear Ncw0_0 Nfw0_0 Ncw0_1 Nfw0_1 Ncw1_0 Nfw1_0 Ncw1_1 Nfw1_1 Ncw1_2 Nfw1_2 Ncw1_3 Nfw1_3 Nhy0 Nhy1)
  have HB1 := Lib.hid (show Below w.heap.size w w1 by (repeat' (first | (with_reducible exact Below.refl _ _) | (with_reducible assumption) | (with_reducible refine Below.alloc ?_ ?_ _) | (with_reducible refine Below.drew ?_) | (with_reducible refine Below.drewN' ?_ _) | (with_reducible refine Below.setCell ?_ ?_ _) | (refine Below.via ?_ (by with_reducible assumption) ?_) | (with_reducible refine Below.via ?_ (Wd.h _) ?_) | go_size)))
  clear hb1
  by_cases h0 : nomsC N lb ln = 0
  case neg =>
    have b0 : (nomsC N lb ln != 0) = true := by simp [h0]
    have HR := Lib.hid (show acR N lb ln x = ([], nomsC N lb ln) by simp [acR, h0])
    clear h0
    go_wp2
    go_ret2
    exact MadeR.nilN HR.out rfl HB1.out
  have b0 : (nomsC N lb ln != 0) = false := by simp [h0]
  have H0 := Lib.hid h0
  have HKK := Lib.hid (ctrsOk_of (noms_of h0).1)
  have h200 := (noms_of h0).2.1
  have HYB := Lib.hid (show ∀ y ∈ ln, 0 ≤ y.am ∧ y.am ≤ 30000 from fun y hy => (nom_mem HKK.out (noms_of h0).2 hy).2.2)
  clear h0
  go_wp2_with fail
  refine (spec_l21Is _ _ lb x _ (HB.out.below HB1.out) hl HKK.out).mono ?_
  rintro e w2 ⟨rfl, hb2⟩
  (obtain ⟨hcn, hfn⟩ := bcell hb2; have hz2 := hb2.size; (try simp at hz2); have Ncw0_0 := hcn (w.heap.size) (0) (by first | omega | (simp; done) | (simp; omega)); have Nfw0_0 := hfn (w.heap.size) (0) (by first | omega | (simp; done) | (simp; omega)); have Nhy0 : w.heap.size < w2.heap.size := (by omega); have Ncw0_1 := hcn (w.heap.size) (1) (by first | omega | (simp; done) | (simp; omega)); have Nfw0_1 := hfn (w.heap.size) (1) (by first | omega | (simp; done) | (simp; omega)); have Ncw1_0 := hcn (w.heap.size + 1) (0) (by first | omega | (simp; done) | (simp; omega)); have Nfw1_0 := hfn (w.heap.size + 1) (0) (by first | omega | (simp; done) | (simp; omega)); have Nhy1 : w.heap.size + 1 < w2.heap.size := (by omega); have Ncw1_1 := hcn (w.heap.size + 1) (1) (by first | omega | (simp; done) | (simp; omega)); have Nfw1_1 := hfn (w.heap.size + 1) (1) (by first | omega | (simp; done) | (simp; omega)); have Ncw1_2 := hcn (w.heap.size + 1) (2) (by first | omega | (simp; done) | (simp; omega)); have Nfw1_2 := hfn (w.heap.size + 1) (2) (by first | omega | (simp; done) | (simp; omega)); have Ncw1_3 := hcn (w.heap.size + 1) (3) (by first | omega | (simp; done) | (simp; omega)); have Nfw1_3 := hfn (w.heap.size + 1) (3) (by first | omega | (simp; done) | (simp; omega)); simp [go_sem, cw0_0, fw0_0, cw0_1, fw0_1, cw1_0, fw1_0, cw1_1, fw1_1, cw1_2, fw1_2, cw1_3, fw1_3, hy0, hy1] at Ncw0_0 Nfw0_0 Ncw0_1 Nfw0_1 Ncw1_0 Nfw1_0 Ncw1_1 Nfw1_1 Ncw1_2 Nfw1_2 Ncw1_3 Nfw1_3; clear cw0_0 fw0_0 cw0_1 fw0_1 cw1_0 fw1_0 cw1_1 fw1_1 cw1_2 fw1_2 cw1_3 fw1_3 hy0 hy1; clear hcn hfn; have cw0_0 := Ncw0_0; have fw0_0 := Nfw0_0; have cw0_1 := Ncw0_1; have fw0_1 := Nfw0_1; have cw1_0 := Ncw1_0; have fw1_0 := Nfw1_0; have cw1_1 := Ncw1_1; have fw1_1 := Nfw1_1; have cw1_2 := Ncw1_2; have fw1_2 := Nfw1_2; have cw1_3 := Ncw1_3; have fw1_3 := Nfw1_3; have hy0 := Nhy0; have hy1 := Nhy1; clear Ncw0_0 Nfw0_0 Ncw0_1 Nfw0_1 Ncw1_0 Nfw1_0 Ncw1_1 Nfw1_1 Ncw1_2 Nfw1_2 Ncw1_3 Nfw1_3 Nhy0 Nhy1)
  have HB2 := Lib.hid (HB1.out.trans (hb2.mono HB1.out.size))
  clear hb2
  cases hv : nomB lb x
  · have HR := Lib.hid (show acR N lb ln x = ([], 2) by simp [acR, H0.out, hv])
    go_wp2
    go_ret2
    exact MadeR.nilN HR.out rfl HB2.out
  have HV := Lib.hid hv
  clear hv
  go_wp2_with fail
  refine (spec_l21Acceptable _ _ _ _ lb ln x _ (HB.out.below HB2.out) hl (HM.out.below HB2.out) hl' HKK.out HV.out HYB.out).mono ?_
  rintro e w3 ⟨rfl, hb3⟩
  (obtain ⟨hcn, hfn⟩ := bcell hb3; have hz3 := hb3.size; (try simp at hz3); have Ncw0_0 := hcn (w.heap.size) (0) (by first | omega | (simp; done) | (simp; omega)); have Nfw0_0 := hfn (w.heap.size) (0) (by first | omega | (simp; done) | (simp; omega)); have Nhy0 : w.heap.size < w3.heap.size := (by omega); have Ncw0_1 := hcn (w.heap.size) (1) (by first | omega | (simp; done) | (simp; omega)); have Nfw0_1 := hfn (w.heap.size) (1) (by first | omega | (simp; done) | (simp; omega)); have Ncw1_0 := hcn (w.heap.size + 1) (0) (by first | omega | (simp; done) | (simp; omega)); have Nfw1_0 := hfn (w.heap.size + 1) (0) (by first | omega | (simp; done) | (simp; omega)); have Nhy1 : w.heap.size + 1 < w3.heap.size := (by omega); have Ncw1_1 := hcn (w.heap.size + 1) (1) (by first | omega | (simp; done) | (simp; omega)); have Nfw1_1 := hfn (w.heap.size + 1) (1) (by first | omega | (simp; done) | (simp; omega)); have Ncw1_2 := hcn (w.heap.size + 1) (2) (by first | omega | (simp; done) | (simp; omega)); have Nfw1_2 := hfn (w.heap.size + 1) (2) (by first | omega | (simp; done) | (simp; omega)); have Ncw1_3 := hcn (w.heap.size + 1) (3) (by first | omega | (simp; done) | (simp; omega)); have Nfw1_3 := hfn (w.heap.size + 1) (3) (by first | omega | (simp; done) | (simp; omega)); simp [go_sem, cw0_0, fw0_0, cw0_1, fw0_1, cw1_0, fw1_0, cw1_1, fw1_1, cw1_2, fw1_2, cw1_3, fw1_3, hy0, hy1] at Ncw0_0 Nfw0_0 Ncw0_1 Nfw0_1 Ncw1_0 Nfw1_0 Ncw1_1 Nfw1_1 Ncw1_2 Nfw1_2 Ncw1_3 Nfw1_3; clear cw0_0 fw0_0 cw0_1 fw0_1 cw1_0 fw1_0 cw1_1 fw1_1 cw1_2 fw1_2 cw1_3 fw1_3 hy0 hy1; clear hcn hfn; have cw0_0 := Ncw0_0; have fw0_0 := Nfw0_0; have cw0_1 := Ncw0_1; have fw0_1 := Nfw0_1; have cw1_0 := Ncw1_0; have fw1_0 := Nfw1_0; have cw1_1 := Ncw1_1; have fw1_1 := Nfw1_1; have cw1_2 := Ncw1_2; have fw1_2 := Nfw1_2; have cw1_3 := Ncw1_3; have fw1_3 := Nfw1_3; have hy0 := Nhy0; have hy1 := Nhy1; clear Ncw0_0 Nfw0_0 Ncw0_1 Nfw0_1 Ncw1_0 Nfw1_0 Ncw1_1 Nfw1_1 Ncw1_2 Nfw1_2 Ncw1_3 Nfw1_3 Nhy0 Nhy1)
  have HB3 := Lib.hid (HB2.out.trans (hb3.mono HB2.out.size))
  clear hb3
  cases hac : accB lb ln x
  · have HR := Lib.hid (accB_f hac H0.out HV.out)
    go_wp2
    go_ret2
    exact MadeR.nilN HR.out rfl HB3.out
  have HR0 := Lib.hid (show acR N lb ln x = if ln.length = 200 then ([], 3) else (ln ++ [x], 0) by have := accB_t hac; simp [acR, H0.out, HV.out, this.1, this.2])
  by_cases h2 : ln.length = 200
  · have p2 : ((ln.length : Int) == 200) = true := by rw [beq_iff_eq]; omega
    have HR := Lib.hid (show acR N lb ln x = ([], 3) by rw [HR0.out, if_pos h2])
    clear h2
    go_wp2
    go_ret2
    exact MadeR.nilN HR.out rfl HB3.out
  have p2 : ((ln.length : Int) == 200) = false := by rw [beq_eq_false_iff_ne]; omega
  have HR := Lib.hid (show acR N lb ln x = (ln ++ [x], 0) by rw [HR0.out, if_neg h2])
  have hz3 := HB3.out.size
  clear h2 hac
  rcases Nat.eq_zero_or_pos ln.length with hz | hp
  · obtain rfl : ln = [] := List.eq_nil_of_length_eq_zero hz
    clear hz
    go_wp2_with fail
    go_region_held3 (fun w' => w'.cell? ⟨w.heap.size + 1, 0, none⟩ = some (.int .i64 x.con) ∧ w'.cell? ⟨w.heap.size + 1, 1, none⟩ = some (.int .i64 x.hr) ∧ w'.cell? ⟨w.heap.size + 1, 2, none⟩ = some (.int .i64 x.sent) ∧ w'.cell? ⟨w.heap.size + 1, 3, none⟩ = some (.int .i64 x.am))
      (first | exact ⟨cw1_0, cw1_1, cw1_2, cw1_3⟩ | (simp [go_sem, cw1_0, cw1_1, cw1_2, cw1_3, hy5]; done) | go_keep)
      (first
        | (refine app_nothing rfl (.tmp 34) (.tmp 35) 29 rfl info_NomX Try.underlying29 _ rfl D f rfl ?_)
        | (apply app0 (s := .tmp 36) (x := .tmp 38) (t := 29) (hinfo := info_NomX) (news := x.cells) (m := 1) (c := 1); (case hgd => exact rfl); (case ho => exact rfl); (case ht => exact Try.underlying29); (case hzs => exact rfl); (case hsz => decide); (case hby => decide); (case hs => exact rfl); (case hx => exact rfl); (case hl => exact rfl); (case hrd => (refine Rd.mk ?_ (by first | (simp; done) | (simp; omega)); (intro j u hu; rw [Nat.zero_add]; match j, hu with | 0, hu => (simp [Nom.cells] at hu; subst hu; first | done | (simp; done) | (simp [go_sem]; done)) | 1, hu => (simp [Nom.cells] at hu; subst hu; first | done | (simp; done) | (simp [go_sem]; done)) | 2, hu => (simp [Nom.cells] at hu; subst hu; first | done | (simp; done) | (simp [go_sem]; done)) | 3, hu => (simp [Nom.cells] at hu; subst hu; first | done | (simp; done) | (simp [go_sem]; done)) | j + 4, hu => simp [Nom.cells] at hu))); (case h1 => (simp [Nom.cells, Value.oneCell'])); (case hm => decide); (case hn => decide); intro v6 w6 hO6 hb6; have HO6 := Lib.hid hO6; have hz6 := hb6.size; (try simp at hz6); replace cw1_0 : w6.cell? ⟨w.heap.size + 1, 0, none⟩ = some (.int .i64 x.con) := bc hb6 (by first | omega | (simp; omega)) (by first | exact cw1_0 | exact bc (B := w3.heap.size) (w := w3) (by (repeat' (first | (with_reducible exact Below.refl _ _) | (with_reducible assumption) | (with_reducible refine Below.alloc ?_ ?_ _) | (with_reducible refine Below.drew ?_) | (with_reducible refine Below.drewN' ?_ _) | (with_reducible refine Below.setCell ?_ ?_ _) | (refine Below.via ?_ (by with_reducible assumption) ?_) | (with_reducible refine Below.via ?_ (Wd.h _) ?_) | go_size))) hy1 cw1_0 | (simp [go_sem, cw1_0, hy1]; done)); replace cw1_1 : w6.cell? ⟨w.heap.size + 1, 1, none⟩ = some (.int .i64 x.hr) := bc hb6 (by first | omega | (simp; omega)) (by first | exact cw1_1 | exact bc (B := w3.heap.size) (w := w3) (by (repeat' (first | (with_reducible exact Below.refl _ _) | (with_reducible assumption) | (with_reducible refine Below.alloc ?_ ?_ _) | (with_reducible refine Below.drew ?_) | (with_reducible refine Below.drewN' ?_ _) | (with_reducible refine Below.setCell ?_ ?_ _) | (refine Below.via ?_ (by with_reducible assumption) ?_) | (with_reducible refine Below.via ?_ (Wd.h _) ?_) | go_size))) hy1 cw1_1 | (simp [go_sem, cw1_1, hy1]; done)); replace cw1_2 : w6.cell? ⟨w.heap.size + 1, 2, none⟩ = some (.int .i64 x.sent) := bc hb6 (by first | omega | (simp; omega)) (by first | exact cw1_2 | exact bc (B := w3.heap.size) (w := w3) (by (repeat' (first | (with_reducible exact Below.refl _ _) | (with_reducible assumption) | (with_reducible refine Below.alloc ?_ ?_ _) | (with_reducible refine Below.drew ?_) | (with_reducible refine Below.drewN' ?_ _) | (with_reducible refine Below.setCell ?_ ?_ _) | (refine Below.via ?_ (by with_reducible assumption) ?_) | (with_reducible refine Below.via ?_ (Wd.h _) ?_) | go_size))) hy1 cw1_2 | (simp [go_sem, cw1_2, hy1]; done)); replace cw1_3 : w6.cell? ⟨w.heap.size + 1, 3, none⟩ = some (.int .i64 x.am) := bc hb6 (by first | omega | (simp; omega)) (by first | exact cw1_3 | exact bc (B := w3.heap.size) (w := w3) (by (repeat' (first | (with_reducible exact Below.refl _ _) | (with_reducible assumption) | (with_reducible refine Below.alloc ?_ ?_ _) | (with_reducible refine Below.drew ?_) | (with_reducible refine Below.drewN' ?_ _) | (with_reducible refine Below.setCell ?_ ?_ _) | (refine Below.via ?_ (by with_reducible assumption) ?_) | (with_reducible refine Below.via ?_ (Wd.h _) ?_) | go_size))) hy1 cw1_3 | (simp [go_sem, cw1_3, hy1]; done)); clear hO6)
        | fail)
    all_goals
      go_wp2
      go_ret2
      refine MadeR.ownN (l := [] ++ [x]) (n := 1) HR.out (by simp) (by have := HO6.out; simpa using this) (by first | omega | (simp; omega)) (by have h1 := HB3.out; (repeat' (first | (with_reducible exact Below.refl _ _) | (with_reducible assumption) | (with_reducible refine Below.alloc ?_ ?_ _) | (with_reducible refine Below.drew ?_) | (with_reducible refine Below.drewN' ?_ _) | (with_reducible refine Below.setCell ?_ ?_ _) | (refine Below.via ?_ (by with_reducible assumption) ?_) | (with_reducible refine Below.via ?_ (Wd.h _) ?_) | go_size)))
  · obtain ⟨aD, rfl⟩ := rd_some HM.out (by
      cases ln with
      | nil => simp at hp
      | cons y l => simp [Nom.cells])
    go_wp2_with fail
    go_region_held3 (fun w' => w'.cell? ⟨w.heap.size + 1, 0, none⟩ = some (.int .i64 x.con) ∧ w'.cell? ⟨w.heap.size + 1, 1, none⟩ = some (.int .i64 x.hr) ∧ w'.cell? ⟨w.heap.size + 1, 2, none⟩ = some (.int .i64 x.sent) ∧ w'.cell? ⟨w.heap.size + 1, 3, none⟩ = some (.int .i64 x.am))
      (first | exact ⟨cw1_0, cw1_1, cw1_2, cw1_3⟩ | (simp [go_sem, cw1_0, cw1_1, cw1_2, cw1_3, hy5]; done) | go_keep)
      (first
        | (apply app0 (s := .tmp 34) (x := .tmp 35) (t := 29) (hinfo := info_NomX) (news := ln.flatMap Nom.cells) (m := ln.length) (c := f); (case hgd => exact rfl); (case ho => exact rfl); (case ht => exact Try.underlying29); (case hzs => exact rfl); (case hsz => decide); (case hby => decide); (case hs => exact rfl); (case hx => exact rfl); (case hl => exact flat_len Nom.len ln); (case hrd => exact HM.out.below (by have h1 := HB3.out; (repeat' (first | (with_reducible exact Below.refl _ _) | (with_reducible assumption) | (with_reducible refine Below.alloc ?_ ?_ _) | (with_reducible refine Below.drew ?_) | (with_reducible refine Below.drewN' ?_ _) | (with_reducible refine Below.setCell ?_ ?_ _) | (refine Below.via ?_ (by with_reducible assumption) ?_) | (with_reducible refine Below.via ?_ (Wd.h _) ?_) | go_size)))); (case h1 => exact Nom.one ln); (case hm => omega); (case hn => omega); intro v5 w5 hO5 hb5; have HO5 := Lib.hid (hO5.lower (base' := w.heap.size + 2) (by first | omega | (simp; omega))); have hz5 := hb5.size; (try simp at hz5); have HC5 := Lib.hid (bcell hb5).1; have hy5 : w.heap.size + 1 < w5.heap.size := (by omega); replace cw1_0 : w5.cell? ⟨w.heap.size + 1, 0, none⟩ = some (.int .i64 x.con) := bc hb5 (by first | omega | (simp; omega)) (by first | exact cw1_0 | exact bc (B := w3.heap.size) (w := w3) (by (repeat' (first | (with_reducible exact Below.refl _ _) | (with_reducible assumption) | (with_reducible refine Below.alloc ?_ ?_ _) | (with_reducible refine Below.drew ?_) | (with_reducible refine Below.drewN' ?_ _) | (with_reducible refine Below.setCell ?_ ?_ _) | (refine Below.via ?_ (by with_reducible assumption) ?_) | (with_reducible refine Below.via ?_ (Wd.h _) ?_) | go_size))) hy1 cw1_0 | (simp [go_sem, cw1_0, hy1]; done)); replace cw1_1 : w5.cell? ⟨w.heap.size + 1, 1, none⟩ = some (.int .i64 x.hr) := bc hb5 (by first | omega | (simp; omega)) (by first | exact cw1_1 | exact bc (B := w3.heap.size) (w := w3) (by (repeat' (first | (with_reducible exact Below.refl _ _) | (with_reducible assumption) | (with_reducible refine Below.alloc ?_ ?_ _) | (with_reducible refine Below.drew ?_) | (with_reducible refine Below.drewN' ?_ _) | (with_reducible refine Below.setCell ?_ ?_ _) | (refine Below.via ?_ (by with_reducible assumption) ?_) | (with_reducible refine Below.via ?_ (Wd.h _) ?_) | go_size))) hy1 cw1_1 | (simp [go_sem, cw1_1, hy1]; done)); replace cw1_2 : w5.cell? ⟨w.heap.size + 1, 2, none⟩ = some (.int .i64 x.sent) := bc hb5 (by first | omega | (simp; omega)) (by first | exact cw1_2 | exact bc (B := w3.heap.size) (w := w3) (by (repeat' (first | (with_reducible exact Below.refl _ _) | (with_reducible assumption) | (with_reducible refine Below.alloc ?_ ?_ _) | (with_reducible refine Below.drew ?_) | (with_reducible refine Below.drewN' ?_ _) | (with_reducible refine Below.setCell ?_ ?_ _) | (refine Below.via ?_ (by with_reducible assumption) ?_) | (with_reducible refine Below.via ?_ (Wd.h _) ?_) | go_size))) hy1 cw1_2 | (simp [go_sem, cw1_2, hy1]; done)); replace cw1_3 : w5.cell? ⟨w.heap.size + 1, 3, none⟩ = some (.int .i64 x.am) := bc hb5 (by first | omega | (simp; omega)) (by first | exact cw1_3 | exact bc (B := w3.heap.size) (w := w3) (by (repeat' (first | (with_reducible exact Below.refl _ _) | (with_reducible assumption) | (with_reducible refine Below.alloc ?_ ?_ _) | (with_reducible refine Below.drew ?_) | (with_reducible refine Below.drewN' ?_ _) | (with_reducible refine Below.setCell ?_ ?_ _) | (refine Below.via ?_ (by with_reducible assumption) ?_) | (with_reducible refine Below.via ?_ (Wd.h _) ?_) | go_size))) hy1 cw1_3 | (simp [go_sem, cw1_3, hy1]; done)); clear hO5)
        | (apply step_of rfl; apply app1x (s := .tmp 36) (x := .tmp 38) (t := 29) (base := w.heap.size + 2) (hinfo := info_NomX) (v := v5) (n := ln.length) (xs := ln.flatMap Nom.cells) (news := x.cells) (m := 1) (c := 1); (case ho => exact rfl); (case ht => exact Try.underlying29); (case hzs => exact rfl); (case hsz => decide); (case hby => decide); (case hs => exact rfl); (case hown => (repeat' (first | (with_reducible exact HO5.out) | (with_reducible refine Own.alloc ?_ _) | (with_reducible refine Own.drew ?_)))); (case hx => exact rfl); (case hl => exact rfl); (case hnews => (intro j u hu; match j, hu with | 0, hu => (simp [Nom.cells] at hu; subst hu; first | done | (simp; done) | (exact bc hb5 (by first | (simp; done) | (simp; omega)) (by simp)) | (simp [HC5.out]; done)) | 1, hu => (simp [Nom.cells] at hu; subst hu; first | done | (simp; done) | (exact bc hb5 (by first | (simp; done) | (simp; omega)) (by simp)) | (simp [HC5.out]; done)) | 2, hu => (simp [Nom.cells] at hu; subst hu; first | done | (simp; done) | (exact bc hb5 (by first | (simp; done) | (simp; omega)) (by simp)) | (simp [HC5.out]; done)) | 3, hu => (simp [Nom.cells] at hu; subst hu; first | done | (simp; done) | (exact bc hb5 (by first | (simp; done) | (simp; omega)) (by simp)) | (simp [HC5.out]; done)) | j + 4, hu => simp [Nom.cells] at hu)); (case h1 => (simp [Nom.cells, Value.oneCell'])); (case hm => decide); (case hn => omega); (case hbase => (first | omega | (simp; omega))); intro v6 w6 hO6 hb6 hF6; have HO6 := Lib.hid hO6; have hy5 : w.heap.size + 1 < w5.heap.size := (by omega); replace cw1_0 : w6.cell? ⟨w.heap.size + 1, 0, none⟩ = some (.int .i64 x.con) := bc hb6 (by first | omega | (simp; omega)) (by first | exact cw1_0 | exact bc (B := w5.heap.size) (w := w5) (by (repeat' (first | (with_reducible exact Below.refl _ _) | (with_reducible assumption) | (with_reducible refine Below.alloc ?_ ?_ _) | (with_reducible refine Below.drew ?_) | (with_reducible refine Below.drewN' ?_ _) | (with_reducible refine Below.setCell ?_ ?_ _) | (refine Below.via ?_ (by with_reducible assumption) ?_) | (with_reducible refine Below.via ?_ (Wd.h _) ?_) | go_size))) hy5 cw1_0 | (simp [go_sem, cw1_0, hy5]; done)); replace cw1_1 : w6.cell? ⟨w.heap.size + 1, 1, none⟩ = some (.int .i64 x.hr) := bc hb6 (by first | omega | (simp; omega)) (by first | exact cw1_1 | exact bc (B := w5.heap.size) (w := w5) (by (repeat' (first | (with_reducible exact Below.refl _ _) | (with_reducible assumption) | (with_reducible refine Below.alloc ?_ ?_ _) | (with_reducible refine Below.drew ?_) | (with_reducible refine Below.drewN' ?_ _) | (with_reducible refine Below.setCell ?_ ?_ _) | (refine Below.via ?_ (by with_reducible assumption) ?_) | (with_reducible refine Below.via ?_ (Wd.h _) ?_) | go_size))) hy5 cw1_1 | (simp [go_sem, cw1_1, hy5]; done)); replace cw1_2 : w6.cell? ⟨w.heap.size + 1, 2, none⟩ = some (.int .i64 x.sent) := bc hb6 (by first | omega | (simp; omega)) (by first | exact cw1_2 | exact bc (B := w5.heap.size) (w := w5) (by (repeat' (first | (with_reducible exact Below.refl _ _) | (with_reducible assumption) | (with_reducible refine Below.alloc ?_ ?_ _) | (with_reducible refine Below.drew ?_) | (with_reducible refine Below.drewN' ?_ _) | (with_reducible refine Below.setCell ?_ ?_ _) | (refine Below.via ?_ (by with_reducible assumption) ?_) | (with_reducible refine Below.via ?_ (Wd.h _) ?_) | go_size))) hy5 cw1_2 | (simp [go_sem, cw1_2, hy5]; done)); replace cw1_3 : w6.cell? ⟨w.heap.size + 1, 3, none⟩ = some (.int .i64 x.am) := bc hb6 (by first | omega | (simp; omega)) (by first | exact cw1_3 | exact bc (B := w5.heap.size) (w := w5) (by (repeat' (first | (with_reducible exact Below.refl _ _) | (with_reducible assumption) | (with_reducible refine Below.alloc ?_ ?_ _) | (with_reducible refine Below.drew ?_) | (with_reducible refine Below.drewN' ?_ _) | (with_reducible refine Below.setCell ?_ ?_ _) | (refine Below.via ?_ (by with_reducible assumption) ?_) | (with_reducible refine Below.via ?_ (Wd.h _) ?_) | go_size))) hy5 cw1_3 | (simp [go_sem, cw1_3, hy5]; done)); clear hO6 hF6)
        | fail)
    all_goals
      go_wp2
      go_ret2
      refine MadeR.ownN (l := ln ++ [x]) (n := ln.length + 1) HR.out (by simp) (by have := HO6.out; simpa using this) (by first | omega | (simp; omega)) (by have h1 := HB3.out; (repeat' (first | (with_reducible exact Below.refl _ _) | (with_reducible assumption) | (with_reducible refine Below.alloc ?_ ?_ _) | (with_reducible refine Below.drew ?_) | (with_reducible refine Below.drewN' ?_ _) | (with_reducible refine Below.setCell ?_ ?_ _) | (refine Below.via ?_ (by with_reducible assumption) ?_) | (with_reducible refine Below.via ?_ (Wd.h _) ?_) | go_size)))
end Go.Proofs.Ytigplpbdkjiekaa
namespace Go.Proofs.Ytigplpbdkjiekaa
set_option linter.unusedVariables false
set_option linter.unusedSimpArgs false
open Go.RowKit
set_option maxRecDepth 100000 in
set_option maxHeartbeats 1000000 in
theorem laws_likeOrders (A B : Option Addr) (c d n m : Nat) (l : List Ord) (w : World) (h : Rd w A (l.flatMap Ord.cells)) (h' : Rd w B (l.flatMap Ord.cells)) (hn : n = l.length) (hm : m = l.length) (hl : l.length ≤ 1048576) :
    Calls Try.prog 21 #[.slice A n c, .slice B m d] w fun e w' => e = .returned (.bool true) ∧ Below w.heap.size w w' := by
  subst hn hm
  have H := Lib.hid h
  have H' := Lib.hid h'
  clear h h'
  go_enter Try.func21, Try.ntmps21
  go_wp2
  go_loopw [5] (fun v wr => ∃ k : Nat, k ≤ l.length ∧ v = .int .i64 k ∧ Below w.heap.size w wr) (fun v _ => l.length - (intOf v).toNat)
  case atStart => exact ⟨0, by omega, rfl, Below.refl _ _⟩
  case round =>
    obtain ⟨k, hk, rfl, hbw⟩ := hrel
    have hbH := Lib.hid hbw
    by_cases hlt : k < l.length
    · obtain ⟨x, hx⟩ := get_some hlt
      obtain ⟨b, off, rfl, hb, hat⟩ := H.out.opened (k := k) (by rw [flat_len Ord.len]; omega)
      obtain ⟨b', off', rfl, hb', hat'⟩ := H'.out.opened (k := k) (by rw [flat_len Ord.len]; omega)
      have hat2 := hat.below hbw hb
      have hat2' := hat'.below hbw hb'
      have hbr : b < wr.heap.size := Nat.lt_of_lt_of_le hb hbw.size
      have hbr' : b' < wr.heap.size := Nat.lt_of_lt_of_le hb' hbw.size
      have q0_0 := Wd.cell hbr (hat2.elem0 Ord.len hx rfl)
      have q0_1 := Wd.cell hbr' (hat2'.elem0 Ord.len hx rfl)
      have q1_0 := Wd.cell hbr (hat2.elem Ord.len hx 1 rfl)
      have q1_1 := Wd.cell hbr' (hat2'.elem Ord.len hx 1 rfl)
      have q2_0 := Wd.cell hbr (hat2.elem Ord.len hx 2 rfl)
      have q2_1 := Wd.cell hbr' (hat2'.elem Ord.len hx 2 rfl)
      have q3_0 := Wd.cell hbr (hat2.elem Ord.len hx 3 rfl)
      have q3_1 := Wd.cell hbr' (hat2'.elem Ord.len hx 3 rfl)
      clear hx hat hat' hat2 hat2' hbw hbr hbr'
      go_wp2_with fail
      ((refine wp_region_wd (by kernel_rfl) (by kernel_rfl) ?_); (repeat (go_big_quiet_step ((first | fail)))); (refine wpQuiet_nil ?_); rintro wn ⟨⟨w'', hbn⟩, hw''⟩; obtain rfl : wn = w'' := hw''; (obtain ⟨hcn, hfn⟩ := bcell hbn; have hzn := hbn.size; (try simp at hzn); clear hcn hfn))
      go_wp2
      go_roundw
      case rel => exact ⟨k + 1, by omega, by go_num, Below.via hbH.out hbn hbH.out.size⟩
      case measure => simp [intOf]; omega
    · clear hbw
      go_wp2
      go_ret
      exact ⟨rfl, hbH.out⟩
set_option maxRecDepth 100000 in
set_option maxHeartbeats 1000000 in
theorem laws_likeOwnNomination (A B : Option Addr) (c d n m : Nat) (l : List Nom) (w : World) (h : Rd w A (l.flatMap Nom.cells)) (h' : Rd w B (l.flatMap Nom.cells)) (hn : n = l.length) (hm : m = l.length) (hl : l.length ≤ 1048576) :
    Calls Try.prog 10 #[.slice A n c, .slice B m d] w fun e w' => e = .returned (.bool true) ∧ Below w.heap.size w w' := by
  subst hn hm
  have H := Lib.hid h
  have H' := Lib.hid h'
  clear h h'
  go_enter Try.func10, Try.ntmps10
  go_wp2
  go_loopw [5] (fun v wr => ∃ k : Nat, k ≤ l.length ∧ v = .int .i64 k ∧ Below w.heap.size w wr) (fun v _ => l.length - (intOf v).toNat)
  case atStart => exact ⟨0, by omega, rfl, Below.refl _ _⟩
  case round =>
    obtain ⟨k, hk, rfl, hbw⟩ := hrel
    have hbH := Lib.hid hbw
    by_cases hlt : k < l.length
    · obtain ⟨x, hx⟩ := get_some hlt
      obtain ⟨b, off, rfl, hb, hat⟩ := H.out.opened (k := k) (by rw [flat_len Nom.len]; omega)
      obtain ⟨b', off', rfl, hb', hat'⟩ := H'.out.opened (k := k) (by rw [flat_len Nom.len]; omega)
      have hat2 := hat.below hbw hb
      have hat2' := hat'.below hbw hb'
      have hbr : b < wr.heap.size := Nat.lt_of_lt_of_le hb hbw.size
      have hbr' : b' < wr.heap.size := Nat.lt_of_lt_of_le hb' hbw.size
      have q0_0 := Wd.cell hbr (hat2.elem0 Nom.len hx rfl)
      have q0_1 := Wd.cell hbr' (hat2'.elem0 Nom.len hx rfl)
      have q1_0 := Wd.cell hbr (hat2.elem Nom.len hx 1 rfl)
      have q1_1 := Wd.cell hbr' (hat2'.elem Nom.len hx 1 rfl)
      have q2_0 := Wd.cell hbr (hat2.elem Nom.len hx 2 rfl)
      have q2_1 := Wd.cell hbr' (hat2'.elem Nom.len hx 2 rfl)
      have q3_0 := Wd.cell hbr (hat2.elem Nom.len hx 3 rfl)
      have q3_1 := Wd.cell hbr' (hat2'.elem Nom.len hx 3 rfl)
      clear hx hat hat' hat2 hat2' hbw hbr hbr'
      go_wp2_with fail
      ((refine wp_region_wd (by kernel_rfl) (by kernel_rfl) ?_); (repeat (go_big_quiet_step ((first | fail)))); (refine wpQuiet_nil ?_); rintro wn ⟨⟨w'', hbn⟩, hw''⟩; obtain rfl : wn = w'' := hw''; (obtain ⟨hcn, hfn⟩ := bcell hbn; have hzn := hbn.size; (try simp at hzn); clear hcn hfn))
      go_wp2
      go_roundw
      case rel => exact ⟨k + 1, by omega, by go_num, Below.via hbH.out hbn hbH.out.size⟩
      case measure => simp [intOf]; omega
    · clear hbw
      go_wp2
      go_ret
      exact ⟨rfl, hbH.out⟩
end Go.Proofs.Ytigplpbdkjiekaa
namespace Go.Proofs.Ytigplpbdkjiekaa
set_option linter.unusedVariables false
set_option linter.unusedSimpArgs false
open Go.RowKit
set_option maxRecDepth 100000 in
set_option maxHeartbeats 1000000 in
theorem laws_likeInts (A B : Option Addr) (c d n m : Nat) (l : List Int) (w : World) (h : Rd w A (l.map iV)) (h' : Rd w B (l.map iV)) (hn : n = l.length) (hm : m = l.length) (hl : l.length ≤ 1048576) :
    Calls Try.prog 17 #[.slice A n c, .slice B m d] w fun e w' => e = .returned (.bool true) ∧ Below w.heap.size w w' := by
  subst hn hm
  have H := Lib.hid h
  have H' := Lib.hid h'
  clear h h'
  go_enter Try.func17, Try.ntmps17
  go_wp2
  go_loopw [5] (fun v wr => ∃ k : Nat, k ≤ l.length ∧ v = .int .i64 k ∧ Below w.heap.size w wr) (fun v _ => l.length - (intOf v).toNat)
  case atStart => exact ⟨0, by omega, rfl, Below.refl _ _⟩
  case round =>
    obtain ⟨k, hk, rfl, hbw⟩ := hrel
    have hbH := Lib.hid hbw
    by_cases hlt : k < l.length
    · obtain ⟨n, hn⟩ := get_some hlt
      obtain ⟨b, off, rfl, hb, hat⟩ := H.out.opened (k := k) (by simpa using hlt)
      obtain ⟨b', off', rfl, hb', hat'⟩ := H'.out.opened (k := k) (by simpa using hlt)
      have t0 := ints_at (hat.below hbw hb) hn
      have t1 := ints_at (hat'.below hbw hb') hn
      clear hn hat hat' hbw
      go_wp2
      go_quiet (fail)
      go_wp2
      go_roundw
      case rel => exact ⟨k + 1, by omega, by go_num, Below.drewN' hbH.out _⟩
      case measure => simp [intOf]; omega
    · clear hbw
      go_wp2
      go_ret
      exact ⟨rfl, hbH.out⟩
set_option maxRecDepth 100000 in
set_option maxHeartbeats 1000000 in
theorem laws_sum (A : Option Addr) (c n : Nat) (l : List Int) (w : World) (h : Rd w A (l.map iV)) (hn : n = l.length) (hl : l.length ≤ 1048576) (hs : Sml l) :
    Calls Try.prog 29 #[.slice A n c] w fun e w' => e = .returned (.int .i64 (sumF l)) ∧ w = w' := by
  subst hn
  have H := Lib.hid h
  have HS := Lib.hid hs
  clear h hs
  go_enter Try.func29, Try.ntmps29
  go_wp2
  go_loop [3, 4] (fun u v => ∃ (k : Nat) (r : Int), k ≤ l.length ∧ v = .int .i64 k ∧ u = .int .i64 r ∧ -(k * 1000000000000) ≤ r ∧ r ≤ k * 1000000000000 ∧ r + sumF (l.drop k) = sumF l) (fun _ v => l.length - (intOf v).toNat)
  case atStart => exact ⟨0, 0, by omega, rfl, rfl, by omega, by omega, by simp⟩
  case round =>
    obtain ⟨k, r, hk, rfl, rfl, hr0, hr1, hF⟩ := hrel
    have HF := Lib.hid hF
    clear hF
    by_cases hlt : k < l.length
    · obtain ⟨x, hx⟩ := get_some hlt
      obtain ⟨b, off, rfl, hb, hat⟩ := H.out.opened (k := k) (by simpa using hlt)
      have t0 := ints_at hat hx
      have HD := Lib.hid (drop_consI hx)
      obtain ⟨x1, x2⟩ := HS.out x (List.mem_of_getElem? hx)
      have g1 : (k : Int) < l.length := by omega
      clear hx hat
      go_wp2
      go_round
      case rel =>
        refine ⟨k + 1, r + x, by omega, by go_num, rfl, by omega, by omega, ?_⟩
        rw [← HF.out, HD.out, sumF]; omega
      case measure => simp [intOf]; omega
    · go_wp2
      go_ret
      refine ⟨ri ?_, rfl⟩
      have := HF.out
      rw [drop_endI hlt, sumF] at this
      omega
end Go.Proofs.Ytigplpbdkjiekaa
namespace Go.Proofs.Ytigplpbdkjiekaa
set_option linter.unusedVariables false
set_option linter.unusedSimpArgs false
open Go.RowKit
theorem laws_bigN (A : Option Addr) (n c : Nat) (w : World) : Calls Try.prog 6 #[.slice A n c] w fun e w' => e = .returned (.bool (decide (4096 < n))) ∧ w = w' := by
  go_enter Try.func6, Try.ntmps6
  go_wp2
  go_ret
  refine ⟨rb ?_, rfl⟩
  simp; omega
theorem nomB_ofN {N : Net} {lb : List Ctr} {x : Nom} (h : nomB lb x = true) (hb : bookC N lb = 0) : inB x.con 0 ((lb.length : Int) - 1) = true ∧ inB x.hr 0 47 = true := by
  unfold nomB at h
  rw [Bool.and_eq_true] at h
  refine ⟨h.1, ?_⟩
  have h2 := h.2
  cases hc : lb[x.con.toNat]? with
  | none => rw [hc] at h2; cases h2
  | some c =>
    rw [hc] at h2
    have c1 := ctr_of ((book_of hb).2.2 c (List.mem_of_getElem? hc))
    simp [inB] at h2
    simp [inB]; omega
theorem acc_plain {N : Net} {lb : List Ctr} {ln next : List Nom} {x : Nom} (h : acR N lb ln x = (next, 0)) : next = ln ++ [x] ∧ nomsC N lb next = 0 ∧ nfR N lb next x.con x.hr = (x.am, 0) ∧ hisR N lb next x.con x.hr = (hisF x.con x.hr ln ++ [x.am], 0) ∧ hisR N lb ln x.con x.hr = (hisF x.con x.hr ln, 0) ∧ next.length ≤ 200 := by
  unfold acR at h
  by_cases h0 : nomsC N lb ln = 0
  case neg => rw [if_pos h0] at h; exact absurd (congrArg (fun p => p.2) h) h0
  rw [if_neg (show ¬ nomsC N lb ln ≠ 0 from fun q => q h0)] at h
  by_cases h1 : nomB lb x = false
  · rw [if_pos h1] at h; exact absurd (congrArg (fun p => p.2) h) (by simp)
  rw [if_neg h1] at h
  by_cases h2 : lateB ln x = true
  · rw [if_pos h2] at h; exact absurd (congrArg (fun p => p.2) h) (by simp)
  rw [if_neg h2] at h
  by_cases h3 : farB lb ln x = true
  · rw [if_pos h3] at h; exact absurd (congrArg (fun p => p.2) h) (by simp)
  rw [if_neg h3] at h
  by_cases h4 : ln.length = 200
  · rw [if_pos h4] at h; exact absurd (congrArg (fun p => p.2) h) (by simp)
  rw [if_neg h4] at h
  obtain rfl : ln ++ [x] = next := congrArg (fun p => p.1) h
  have hx : nomB lb x = true := by simpa using h1
  obtain ⟨hb, hl200, hall, hsrt⟩ := noms_of h0
  obtain ⟨i1, i2⟩ := nomB_ofN hx hb
  have hlen : (ln ++ [x]).length ≤ 200 := by simp; omega
  have hok : NomsOk lb (ln ++ [x]) := by
    refine ⟨hlen, fun i y hy => ?_, fun i y z hy hz => ?_⟩
    · rcases Nat.lt_or_ge i ln.length with hi | hi
      · rw [List.getElem?_append_left hi] at hy; exact hall i y hy
      · rw [List.getElem?_append_right hi] at hy
        have : i - ln.length = 0 := by
          have := (List.getElem?_eq_some_iff.1 hy).1; simp at this; omega
        rw [this] at hy; simp at hy; subst hy; exact hx
    · rcases Nat.lt_or_ge (i + 1) ln.length with hi | hi
      · rw [List.getElem?_append_left (by omega)] at hy
        rw [List.getElem?_append_left hi] at hz
        exact hsrt i y z hy hz
      · rw [List.getElem?_append_right hi] at hz
        have h5 : i + 1 - ln.length = 0 := by
          have := (List.getElem?_eq_some_iff.1 hz).1; simp at this; omega
        rw [h5] at hz; simp at hz; subst hz
        rw [List.getElem?_append_left (by omega)] at hy
        have := lateB_last (x := x) (q := i) (by omega) hy
        rw [this] at h2
        simpa using h2
  have hnc : nomsC N lb (ln ++ [x]) = 0 := by
    unfold nomsC
    rw [if_neg (fun q => q hb), nomsB_t hok]; rfl
  have ha : askC N lb (ln ++ [x]) x.con x.hr = 0 := by simp [askC, hnc, i1, i2]
  have ha2 : askC N lb ln x.con x.hr = 0 := by simp [askC, h0, i1, i2]
  have hh : hisF x.con x.hr (ln ++ [x]) = hisF x.con x.hr ln ++ [x.am] := by rw [hisF_append]; simp [hisF]
  exact ⟨rfl, hnc, nfR_some ha hh, by simp [hisR, ha, hh], by simp [hisR, ha2], hlen⟩
theorem acc_two {N : Net} {lb : List Ctr} {ln next : List Nom} {x : Nom} (h : acR N lb ln x = (next, 2)) : ((bookC N lb == 0) && nomB lb x) = false := by
  unfold acR at h
  by_cases h0 : nomsC N lb ln = 0
  case neg =>
    rw [if_pos h0] at h
    have h2 : nomsC N lb ln = 2 := congrArg (fun p => p.2) h
    unfold nomsC at h2
    rcases bookC_cases N lb with hb | hb | hb
    · rw [if_neg (fun q => q hb)] at h2
      split at h2 <;> omega
    · rw [if_pos (by omega)] at h2; omega
    · rw [if_pos (by omega)] at h2; omega
  rw [if_neg (show ¬ nomsC N lb ln ≠ 0 from fun q => q h0)] at h
  by_cases h1 : nomB lb x = false
  · rw [h1, Bool.and_false]
  rw [if_neg h1] at h
  exfalso
  have h2 := congrArg (fun p => p.2) h
  dsimp only at h2
  split at h2
  · exact absurd h2 (by simp)
  · split at h2
    · exact absurd h2 (by simp)
    · split at h2 <;> exact absurd h2 (by simp)
set_option maxRecDepth 100000 in
set_option maxHeartbeats 8000000 in
theorem walk_FnNominations (w : World) (A0 : Option Addr) (c0 : Nat) (l0 : List Int) (h0 : BytesIn w A0 l0) :
    Calls Try.prog 3 #[.slice A0 l0.length c0] w fun e w' => e = .returned (.bool true) ∧ Below w.heap.size w w' := by
  have HI := Lib.hid h0
  clear h0
  by_cases hbig : 4096 < l0.length
  · have b0 : decide (4096 < l0.length) = true := by simpa using hbig
    go_enter Try.func3, Try.ntmps3
    go_wp2_with ((go_at_call 6; refine (laws_bigN _ _ _ _).mono ?_; rintro e w' ⟨rfl, rfl⟩))
    go_ret
    exact ⟨rfl, by (repeat' (first | (with_reducible exact Below.refl _ _) | (with_reducible assumption) | (with_reducible refine Below.alloc ?_ ?_ _) | (with_reducible refine Below.drew ?_) | (with_reducible refine Below.drewN' ?_ _) | (with_reducible refine Below.setCell ?_ ?_ _) | (refine Below.via ?_ (by with_reducible assumption) ?_) | (with_reducible refine Below.via ?_ (Wd.h _) ?_) | go_size))⟩
  have b0 : decide (4096 < l0.length) = false := by simpa using hbig
  go_enter Try.func3, Try.ntmps3
  go_wp2_with ((go_at_call 6; refine (laws_bigN _ _ _ _).mono ?_; rintro e w' ⟨rfl, rfl⟩))
  
  refine (spec_DrawAcceptNomination A0 c0 l0 _ (HI.out.below (by (repeat' (first | (with_reducible exact Below.refl _ _) | (with_reducible assumption) | (with_reducible refine Below.alloc ?_ ?_ _) | (with_reducible refine Below.drew ?_) | (with_reducible refine Below.drewN' ?_ _) | (with_reducible refine Below.setCell ?_ ?_ _) | (refine Below.via ?_ (by with_reducible assumption) ?_) | (with_reducible refine Below.via ?_ (Wd.h _) ?_) | go_size)))) (by omega)).mono ?_
  rintro e w1 ⟨A, Bq, Al, An, c, d, cl, cn, N, l, ln, x, rfl, hnc, hN, hL, hM, hl33, hn201, hb1⟩
  have hz1 := hb1.size
  have HN := Lib.hid hN
  have HL := Lib.hid hL
  have HM := Lib.hid hM
  obtain ⟨nx, code, hR⟩ : ∃ nx code, acR N l ln x = (nx, code) := ⟨_, _, rfl⟩
  have HR := Lib.hid hR
  have hxl : nx.length ≤ 1048576 := by have := acR_len (N := N) (lb := l) (ln := ln) (x := x); rw [hR] at this; exact this
  clear hN hL hM hR
  go_wp2_with fail
  
  refine ((impl_AcceptNomination A Bq Al An _ c _ d cl cn N l ln x _ (HN.out.below (by (repeat' (first | (with_reducible exact Below.refl _ _) | (with_reducible assumption) | (with_reducible refine Below.alloc ?_ ?_ _) | (with_reducible refine Below.drew ?_) | (with_reducible refine Below.drewN' ?_ _) | (with_reducible refine Below.setCell ?_ ?_ _) | (refine Below.via ?_ (by with_reducible assumption) ?_) | (with_reducible refine Below.via ?_ (Wd.h _) ?_) | go_size)))) rfl rfl hnc (HL.out.below (by (repeat' (first | (with_reducible exact Below.refl _ _) | (with_reducible assumption) | (with_reducible refine Below.alloc ?_ ?_ _) | (with_reducible refine Below.drew ?_) | (with_reducible refine Below.drewN' ?_ _) | (with_reducible refine Below.setCell ?_ ?_ _) | (refine Below.via ?_ (by with_reducible assumption) ?_) | (with_reducible refine Below.via ?_ (Wd.h _) ?_) | go_size)))) (by omega) (HM.out.below (by (repeat' (first | (with_reducible exact Below.refl _ _) | (with_reducible assumption) | (with_reducible refine Below.alloc ?_ ?_ _) | (with_reducible refine Below.drew ?_) | (with_reducible refine Below.drewN' ?_ _) | (with_reducible refine Below.setCell ?_ ?_ _) | (refine Below.via ?_ (by with_reducible assumption) ?_) | (with_reducible refine Below.via ?_ (Wd.h _) ?_) | go_size)))) (by omega)).madeN HR.out).mono ?_
  rintro e w2 ⟨A2, c2, rfl, hc2, hW2, hb2⟩
  have HR2 := Lib.hid hW2.rd
  clear hW2
  (obtain ⟨hcn, hfn⟩ := bcell hb2; have hz2 := hb2.size; (try simp at hz2); have Na_0 := hcn (w1.heap.size) (0) (by first | omega | (simp; done) | (simp; omega)); have Na_0f := hfn (w1.heap.size) (0) (by first | omega | (simp; done) | (simp; omega)); have Nhy_a : w1.heap.size < w2.heap.size := (by omega); have Na_1 := hcn (w1.heap.size) (1) (by first | omega | (simp; done) | (simp; omega)); have Na_1f := hfn (w1.heap.size) (1) (by first | omega | (simp; done) | (simp; omega)); have Nx_0 := hcn (w1.heap.size + 1) (0) (by first | omega | (simp; done) | (simp; omega)); have Nx_0f := hfn (w1.heap.size + 1) (0) (by first | omega | (simp; done) | (simp; omega)); have Nhy_x : w1.heap.size + 1 < w2.heap.size := (by omega); have Nx_1 := hcn (w1.heap.size + 1) (1) (by first | omega | (simp; done) | (simp; omega)); have Nx_1f := hfn (w1.heap.size + 1) (1) (by first | omega | (simp; done) | (simp; omega)); have Nx_2 := hcn (w1.heap.size + 1) (2) (by first | omega | (simp; done) | (simp; omega)); have Nx_2f := hfn (w1.heap.size + 1) (2) (by first | omega | (simp; done) | (simp; omega)); have Nx_3 := hcn (w1.heap.size + 1) (3) (by first | omega | (simp; done) | (simp; omega)); have Nx_3f := hfn (w1.heap.size + 1) (3) (by first | omega | (simp; done) | (simp; omega)); simp [go_sem] at Na_0 Na_0f Na_1 Na_1f Nx_0 Nx_0f Nx_1 Nx_1f Nx_2 Nx_2f Nx_3 Nx_3f; clear hcn hfn; have a_0 := Na_0; have a_0f := Na_0f; have a_1 := Na_1; have a_1f := Na_1f; have x_0 := Nx_0; have x_0f := Nx_0f; have x_1 := Nx_1; have x_1f := Nx_1f; have x_2 := Nx_2; have x_2f := Nx_2f; have x_3 := Nx_3; have x_3f := Nx_3f; have hy_a := Nhy_a; have hy_x := Nhy_x; clear Na_0 Na_0f Na_1 Na_1f Nx_0 Nx_0f Nx_1 Nx_1f Nx_2 Nx_2f Nx_3 Nx_3f Nhy_a Nhy_x)
  go_wp2_with fail
  refine ((spec_AcceptNomination A Bq Al An _ c _ d cl cn N l ln x _ (HN.out.below (by (repeat' (first | (with_reducible exact Below.refl _ _) | (with_reducible assumption) | (with_reducible refine Below.alloc ?_ ?_ _) | (with_reducible refine Below.drew ?_) | (with_reducible refine Below.drewN' ?_ _) | (with_reducible refine Below.setCell ?_ ?_ _) | (refine Below.via ?_ (by with_reducible assumption) ?_) | (with_reducible refine Below.via ?_ (Wd.h _) ?_) | go_size)))) rfl rfl (HL.out.below (by (repeat' (first | (with_reducible exact Below.refl _ _) | (with_reducible assumption) | (with_reducible refine Below.alloc ?_ ?_ _) | (with_reducible refine Below.drew ?_) | (with_reducible refine Below.drewN' ?_ _) | (with_reducible refine Below.setCell ?_ ?_ _) | (refine Below.via ?_ (by with_reducible assumption) ?_) | (with_reducible refine Below.via ?_ (Wd.h _) ?_) | go_size)))) (by omega) (HM.out.below (by (repeat' (first | (with_reducible exact Below.refl _ _) | (with_reducible assumption) | (with_reducible refine Below.alloc ?_ ?_ _) | (with_reducible refine Below.drew ?_) | (with_reducible refine Below.drewN' ?_ _) | (with_reducible refine Below.setCell ?_ ?_ _) | (refine Below.via ?_ (by with_reducible assumption) ?_) | (with_reducible refine Below.via ?_ (Wd.h _) ?_) | go_size)))) (by omega)).madeN HR.out).mono ?_
  rintro e w3 ⟨A3, c3, rfl, hc3, hW3, hb3⟩
  have HR3 := Lib.hid hW3.rd
  clear hW3
  (obtain ⟨hcn, hfn⟩ := bcell hb3; have hz3 := hb3.size; (try simp at hz3); have Na_0 := hcn (w1.heap.size) (0) (by first | omega | (simp; done) | (simp; omega)); have Na_0f := hfn (w1.heap.size) (0) (by first | omega | (simp; done) | (simp; omega)); have Nhy_a : w1.heap.size < w3.heap.size := (by omega); have Na_1 := hcn (w1.heap.size) (1) (by first | omega | (simp; done) | (simp; omega)); have Na_1f := hfn (w1.heap.size) (1) (by first | omega | (simp; done) | (simp; omega)); have Nx_0 := hcn (w1.heap.size + 1) (0) (by first | omega | (simp; done) | (simp; omega)); have Nx_0f := hfn (w1.heap.size + 1) (0) (by first | omega | (simp; done) | (simp; omega)); have Nhy_x : w1.heap.size + 1 < w3.heap.size := (by omega); have Nx_1 := hcn (w1.heap.size + 1) (1) (by first | omega | (simp; done) | (simp; omega)); have Nx_1f := hfn (w1.heap.size + 1) (1) (by first | omega | (simp; done) | (simp; omega)); have Nx_2 := hcn (w1.heap.size + 1) (2) (by first | omega | (simp; done) | (simp; omega)); have Nx_2f := hfn (w1.heap.size + 1) (2) (by first | omega | (simp; done) | (simp; omega)); have Nx_3 := hcn (w1.heap.size + 1) (3) (by first | omega | (simp; done) | (simp; omega)); have Nx_3f := hfn (w1.heap.size + 1) (3) (by first | omega | (simp; done) | (simp; omega)); simp [go_sem, a_0, a_0f, a_1, a_1f, x_0, x_0f, x_1, x_1f, x_2, x_2f, x_3, x_3f, hy_a, hy_x] at Na_0 Na_0f Na_1 Na_1f Nx_0 Nx_0f Nx_1 Nx_1f Nx_2 Nx_2f Nx_3 Nx_3f; clear a_0 a_0f a_1 a_1f x_0 x_0f x_1 x_1f x_2 x_2f x_3 x_3f hy_a hy_x; clear hcn hfn; have a_0 := Na_0; have a_0f := Na_0f; have a_1 := Na_1; have a_1f := Na_1f; have x_0 := Nx_0; have x_0f := Nx_0f; have x_1 := Nx_1; have x_1f := Nx_1f; have x_2 := Nx_2; have x_2f := Nx_2f; have x_3 := Nx_3; have x_3f := Nx_3f; have hy_a := Nhy_a; have hy_x := Nhy_x; clear Na_0 Na_0f Na_1 Na_1f Nx_0 Nx_0f Nx_1 Nx_1f Nx_2 Nx_2f Nx_3 Nx_3f Nhy_a Nhy_x)
  have HR23 := Lib.hid (HR2.out.below hb3)
  go_wp2_with fail
  refine (laws_likeOwnNomination A2 A3 c2 c3 _ _ nx _ HR23.out HR3.out rfl rfl hxl).mono ?_
  rintro e w4 ⟨rfl, hb4⟩
  (obtain ⟨hcn, hfn⟩ := bcell hb4; have hz4 := hb4.size; (try simp at hz4); have Na_0 := hcn (w1.heap.size) (0) (by first | omega | (simp; done) | (simp; omega)); have Na_0f := hfn (w1.heap.size) (0) (by first | omega | (simp; done) | (simp; omega)); have Nhy_a : w1.heap.size < w4.heap.size := (by omega); have Na_1 := hcn (w1.heap.size) (1) (by first | omega | (simp; done) | (simp; omega)); have Na_1f := hfn (w1.heap.size) (1) (by first | omega | (simp; done) | (simp; omega)); have Nx_0 := hcn (w1.heap.size + 1) (0) (by first | omega | (simp; done) | (simp; omega)); have Nx_0f := hfn (w1.heap.size + 1) (0) (by first | omega | (simp; done) | (simp; omega)); have Nhy_x : w1.heap.size + 1 < w4.heap.size := (by omega); have Nx_1 := hcn (w1.heap.size + 1) (1) (by first | omega | (simp; done) | (simp; omega)); have Nx_1f := hfn (w1.heap.size + 1) (1) (by first | omega | (simp; done) | (simp; omega)); have Nx_2 := hcn (w1.heap.size + 1) (2) (by first | omega | (simp; done) | (simp; omega)); have Nx_2f := hfn (w1.heap.size + 1) (2) (by first | omega | (simp; done) | (simp; omega)); have Nx_3 := hcn (w1.heap.size + 1) (3) (by first | omega | (simp; done) | (simp; omega)); have Nx_3f := hfn (w1.heap.size + 1) (3) (by first | omega | (simp; done) | (simp; omega)); simp [go_sem, a_0, a_0f, a_1, a_1f, x_0, x_0f, x_1, x_1f, x_2, x_2f, x_3, x_3f, hy_a, hy_x] at Na_0 Na_0f Na_1 Na_1f Nx_0 Nx_0f Nx_1 Nx_1f Nx_2 Nx_2f Nx_3 Nx_3f; clear a_0 a_0f a_1 a_1f x_0 x_0f x_1 x_1f x_2 x_2f x_3 x_3f hy_a hy_x; clear hcn hfn; have a_0 := Na_0; have a_0f := Na_0f; have a_1 := Na_1; have a_1f := Na_1f; have x_0 := Nx_0; have x_0f := Nx_0f; have x_1 := Nx_1; have x_1f := Nx_1f; have x_2 := Nx_2; have x_2f := Nx_2f; have x_3 := Nx_3; have x_3f := Nx_3f; have hy_a := Nhy_a; have hy_x := Nhy_x; clear Na_0 Na_0f Na_1 Na_1f Nx_0 Nx_0f Nx_1 Nx_1f Nx_2 Nx_2f Nx_3 Nx_3f Nhy_a Nhy_x)
  go_wp2_with fail
  refine ((spec_AcceptNomination A Bq Al An _ c _ d cl cn N l ln x _ (HN.out.below (by (repeat' (first | (with_reducible exact Below.refl _ _) | (with_reducible assumption) | (with_reducible refine Below.alloc ?_ ?_ _) | (with_reducible refine Below.drew ?_) | (with_reducible refine Below.drewN' ?_ _) | (with_reducible refine Below.setCell ?_ ?_ _) | (refine Below.via ?_ (by with_reducible assumption) ?_) | (with_reducible refine Below.via ?_ (Wd.h _) ?_) | go_size)))) rfl rfl (HL.out.below (by (repeat' (first | (with_reducible exact Below.refl _ _) | (with_reducible assumption) | (with_reducible refine Below.alloc ?_ ?_ _) | (with_reducible refine Below.drew ?_) | (with_reducible refine Below.drewN' ?_ _) | (with_reducible refine Below.setCell ?_ ?_ _) | (refine Below.via ?_ (by with_reducible assumption) ?_) | (with_reducible refine Below.via ?_ (Wd.h _) ?_) | go_size)))) (by omega) (HM.out.below (by (repeat' (first | (with_reducible exact Below.refl _ _) | (with_reducible assumption) | (with_reducible refine Below.alloc ?_ ?_ _) | (with_reducible refine Below.drew ?_) | (with_reducible refine Below.drewN' ?_ _) | (with_reducible refine Below.setCell ?_ ?_ _) | (refine Below.via ?_ (by with_reducible assumption) ?_) | (with_reducible refine Below.via ?_ (Wd.h _) ?_) | go_size)))) (by omega)).madeN HR.out).mono ?_
  rintro e w5 ⟨A5, c5, rfl, hc5, hW5, hb5⟩
  have HR5 := Lib.hid hW5.rd
  clear hW5
  (obtain ⟨hcn, hfn⟩ := bcell hb5; have hz5 := hb5.size; (try simp at hz5); have Na_0 := hcn (w1.heap.size) (0) (by first | omega | (simp; done) | (simp; omega)); have Na_0f := hfn (w1.heap.size) (0) (by first | omega | (simp; done) | (simp; omega)); have Nhy_a : w1.heap.size < w5.heap.size := (by omega); have Na_1 := hcn (w1.heap.size) (1) (by first | omega | (simp; done) | (simp; omega)); have Na_1f := hfn (w1.heap.size) (1) (by first | omega | (simp; done) | (simp; omega)); have Nx_0 := hcn (w1.heap.size + 1) (0) (by first | omega | (simp; done) | (simp; omega)); have Nx_0f := hfn (w1.heap.size + 1) (0) (by first | omega | (simp; done) | (simp; omega)); have Nhy_x : w1.heap.size + 1 < w5.heap.size := (by omega); have Nx_1 := hcn (w1.heap.size + 1) (1) (by first | omega | (simp; done) | (simp; omega)); have Nx_1f := hfn (w1.heap.size + 1) (1) (by first | omega | (simp; done) | (simp; omega)); have Nx_2 := hcn (w1.heap.size + 1) (2) (by first | omega | (simp; done) | (simp; omega)); have Nx_2f := hfn (w1.heap.size + 1) (2) (by first | omega | (simp; done) | (simp; omega)); have Nx_3 := hcn (w1.heap.size + 1) (3) (by first | omega | (simp; done) | (simp; omega)); have Nx_3f := hfn (w1.heap.size + 1) (3) (by first | omega | (simp; done) | (simp; omega)); simp [go_sem, a_0, a_0f, a_1, a_1f, x_0, x_0f, x_1, x_1f, x_2, x_2f, x_3, x_3f, hy_a, hy_x] at Na_0 Na_0f Na_1 Na_1f Nx_0 Nx_0f Nx_1 Nx_1f Nx_2 Nx_2f Nx_3 Nx_3f; clear a_0 a_0f a_1 a_1f x_0 x_0f x_1 x_1f x_2 x_2f x_3 x_3f hy_a hy_x; clear hcn hfn; have a_0 := Na_0; have a_0f := Na_0f; have a_1 := Na_1; have a_1f := Na_1f; have x_0 := Nx_0; have x_0f := Nx_0f; have x_1 := Nx_1; have x_1f := Nx_1f; have x_2 := Nx_2; have x_2f := Nx_2f; have x_3 := Nx_3; have x_3f := Nx_3f; have hy_a := Nhy_a; have hy_x := Nhy_x; clear Na_0 Na_0f Na_1 Na_1f Nx_0 Nx_0f Nx_1 Nx_1f Nx_2 Nx_2f Nx_3 Nx_3f Nhy_a Nhy_x)
  obtain ⟨bb, hbb⟩ : ∃ bb, (nomsC N l ln == 0) = bb := ⟨_, rfl⟩
  have HBB := Lib.hid hbb
  clear hbb
  have HN5 := Lib.hid (HN.out.below (show Below w1.heap.size w1 w5 by (repeat' (first | (with_reducible exact Below.refl _ _) | (with_reducible assumption) | (with_reducible refine Below.alloc ?_ ?_ _) | (with_reducible refine Below.drew ?_) | (with_reducible refine Below.drewN' ?_ _) | (with_reducible refine Below.setCell ?_ ?_ _) | (refine Below.via ?_ (by with_reducible assumption) ?_) | (with_reducible refine Below.via ?_ (Wd.h _) ?_) | go_size))))
  have HL5 := Lib.hid (HL.out.below (show Below w1.heap.size w1 w5 by (repeat' (first | (with_reducible exact Below.refl _ _) | (with_reducible assumption) | (with_reducible refine Below.alloc ?_ ?_ _) | (with_reducible refine Below.drew ?_) | (with_reducible refine Below.drewN' ?_ _) | (with_reducible refine Below.setCell ?_ ?_ _) | (refine Below.via ?_ (by with_reducible assumption) ?_) | (with_reducible refine Below.via ?_ (Wd.h _) ?_) | go_size))))
  have HM5 := Lib.hid (HM.out.below (show Below w1.heap.size w1 w5 by (repeat' (first | (with_reducible exact Below.refl _ _) | (with_reducible assumption) | (with_reducible refine Below.alloc ?_ ?_ _) | (with_reducible refine Below.drew ?_) | (with_reducible refine Below.drewN' ?_ _) | (with_reducible refine Below.setCell ?_ ?_ _) | (refine Below.via ?_ (by with_reducible assumption) ?_) | (with_reducible refine Below.via ?_ (Wd.h _) ?_) | go_size))))
  have HX5 := Lib.hid ((HR23.out.below hb4).below hb5)
  go_wp2_with fail
  (have qk0 := Wd.cell (by first | assumption | omega | (simp; omega)) a_0; have qk1 := Wd.cell (by first | assumption | omega | (simp; omega)) a_1; (refine wp_region_wd (by kernel_rfl) (by kernel_rfl) ?_); (repeat (go_big_quiet_step ((first | fail | (go_at_call 11; exact wd_below (v := .bool bb) (by rw [← HBB.out]; exact impl_AreNominations A Bq Al An _ c _ d cl cn N l ln _ (HN5.out.below (Wd.h _)) rfl rfl hnc (HL5.out.below (Wd.h _)) (by omega) (HM5.out.below (Wd.h _)) (by omega))) | (go_at_call 12; exact wd_below (v := .bool bb) (by rw [← HBB.out]; exact spec_AreNominations A Bq Al An _ c _ d cl cn N l ln _ (HN5.out.below (Wd.h _)) rfl rfl (HL5.out.below (Wd.h _)) (by omega) (HM5.out.below (Wd.h _)) (by omega))))))); (refine wpQuiet_nil ?_); rintro w6 ⟨⟨w'', hbw6⟩, hw''⟩; obtain rfl : w6 = w'' := hw''; clear qk0 qk1; have hzw6 := hbw6.size; (try simp at hzw6))
  have hb6 := hbw6
  (obtain ⟨hcn, hfn⟩ := bcell hb6; have hz6 := hb6.size; (try simp at hz6); have Na_0 := hcn (w1.heap.size) (0) (by first | omega | (simp; done) | (simp; omega)); have Na_0f := hfn (w1.heap.size) (0) (by first | omega | (simp; done) | (simp; omega)); have Nhy_a : w1.heap.size < w6.heap.size := (by omega); have Na_1 := hcn (w1.heap.size) (1) (by first | omega | (simp; done) | (simp; omega)); have Na_1f := hfn (w1.heap.size) (1) (by first | omega | (simp; done) | (simp; omega)); have Nx_0 := hcn (w1.heap.size + 1) (0) (by first | omega | (simp; done) | (simp; omega)); have Nx_0f := hfn (w1.heap.size + 1) (0) (by first | omega | (simp; done) | (simp; omega)); have Nhy_x : w1.heap.size + 1 < w6.heap.size := (by omega); have Nx_1 := hcn (w1.heap.size + 1) (1) (by first | omega | (simp; done) | (simp; omega)); have Nx_1f := hfn (w1.heap.size + 1) (1) (by first | omega | (simp; done) | (simp; omega)); have Nx_2 := hcn (w1.heap.size + 1) (2) (by first | omega | (simp; done) | (simp; omega)); have Nx_2f := hfn (w1.heap.size + 1) (2) (by first | omega | (simp; done) | (simp; omega)); have Nx_3 := hcn (w1.heap.size + 1) (3) (by first | omega | (simp; done) | (simp; omega)); have Nx_3f := hfn (w1.heap.size + 1) (3) (by first | omega | (simp; done) | (simp; omega)); simp [go_sem, a_0, a_0f, a_1, a_1f, x_0, x_0f, x_1, x_1f, x_2, x_2f, x_3, x_3f, hy_a, hy_x] at Na_0 Na_0f Na_1 Na_1f Nx_0 Nx_0f Nx_1 Nx_1f Nx_2 Nx_2f Nx_3 Nx_3f; clear a_0 a_0f a_1 a_1f x_0 x_0f x_1 x_1f x_2 x_2f x_3 x_3f hy_a hy_x; clear hcn hfn; have a_0 := Na_0; have a_0f := Na_0f; have a_1 := Na_1; have a_1f := Na_1f; have x_0 := Nx_0; have x_0f := Nx_0f; have x_1 := Nx_1; have x_1f := Nx_1f; have x_2 := Nx_2; have x_2f := Nx_2f; have x_3 := Nx_3; have x_3f := Nx_3f; have hy_a := Nhy_a; have hy_x := Nhy_x; clear Na_0 Na_0f Na_1 Na_1f Nx_0 Nx_0f Nx_1 Nx_1f Nx_2 Nx_2f Nx_3 Nx_3f Nhy_a Nhy_x)
  have HB6 := Lib.hid (show Below w.heap.size w w6 by (repeat' (first | (with_reducible exact Below.refl _ _) | (with_reducible assumption) | (with_reducible refine Below.alloc ?_ ?_ _) | (with_reducible refine Below.drew ?_) | (with_reducible refine Below.drewN' ?_ _) | (with_reducible refine Below.setCell ?_ ?_ _) | (refine Below.via ?_ (by with_reducible assumption) ?_) | (with_reducible refine Below.via ?_ (Wd.h _) ?_) | go_size)))
  have HN6 := Lib.hid (HN5.out.below hb6)
  have HL6 := Lib.hid (HL5.out.below hb6)
  have HM6 := Lib.hid (HM5.out.below hb6)
  have HX6 := Lib.hid (HX5.out.below hb6)
  have HR6 := Lib.hid (HR5.out.below hb6)
  clear hb1 hb2 hb3 hb4 hb5 hb6 hbw6
  by_cases e0 : code = 0
  · subst e0
    obtain ⟨q1, q2, q3, q4, q5, q6⟩ := acc_plain HR.out
    obtain ⟨H, hH⟩ : ∃ H, H = hisF x.con x.hr ln := ⟨_, rfl⟩
    rw [← hH] at q4 q5
    obtain ⟨K, hK⟩ : ∃ K, K = H ++ [x.am] := ⟨_, rfl⟩
    rw [← hK] at q4
    have hHl : H.length ≤ 201 := by rw [hH]; have := hisF_len x.con x.hr ln; omega
    have hk1 : (K.length : Int) = H.length + 1 := by rw [hK]; simp
    have hkx : K[H.length]? = some x.am := by rw [hK]; simp
    have HKX := Lib.hid hkx
    have hw1 : IntKind.i64.wrap ((H.length : Int) + 1) = (K.length : Int) := by rw [IntWalk.i64_in _ (by omega)]; omega
    have hw2 : IntKind.i64.wrap ((K.length : Int) - 1) = (H.length : Int) := by rw [IntWalk.i64_in _ (by omega)]; omega
    have hlk : H.length < K.length := by omega
    have glk : (H.length : Int) < (K.length : Int) := by omega
    have hKl : K.length ≤ 1048576 := by omega
    have HQ2 := Lib.hid q2
    have HQ3 := Lib.hid q3
    have HQ4 := Lib.hid q4
    have HQ5 := Lib.hid q5
    clear q1 q2 q3 q4 q5 hH hK hk1 hkx
    have HBX := Lib.hid (show Bx w6 w1.heap.size [.slice A N.nodes.length c, .slice Bq N.pipes.length d] from bx2 hy_a a_0 a_0f a_1 a_1f)
    have HBY := Lib.hid (show Bx w6 (w1.heap.size + 1) x.cells from bx4 hy_x x_0 x_0f x_1 x_1f x_2 x_2f x_3 x_3f)
    have hlt1 := HBX.out.lt
    have hlt2 := HBY.out.lt
    clear hy_a a_0 a_0f a_1 a_1f hy_x x_0 x_0f x_1 x_1f x_2 x_2f x_3 x_3f
    
    go_wp2_with fail
    go_loopw [13] (fun t wr => ∃ k : Nat, k ≤ nx.length ∧ t = .int .i64 k ∧ Below w6.heap.size w6 wr) (fun t _ => nx.length - (intOf t).toNat)
    case atStart => exact ⟨0, by omega, rfl, Below.refl _ _⟩
    case round =>
      obtain ⟨k, hk, rfl, hbw⟩ := hrel
      have hbH := Lib.hid hbw
      have hzw := hbw.size
      by_cases hlk2 : k < nx.length
      · obtain ⟨y, hy⟩ := get_some hlk2
        obtain ⟨b1, o1, rfl, hb1, hat1⟩ := HX6.out.opened (k := k) (by rw [flat_len Nom.len]; omega)
        obtain ⟨b2, o2, rfl, hb2, hat2⟩ := HR6.out.opened (k := k) (by rw [flat_len Nom.len]; omega)
        have hat1' := hat1.below hbw hb1
        have hat2' := hat2.below hbw hb2
        have hbr1 : b1 < wr.heap.size := by omega
        have hbr2 : b2 < wr.heap.size := by omega
        have q0_0 := Wd.cell hbr1 (hat1'.elem0 Nom.len hy rfl)
        have q0_1 := Wd.cell hbr2 (hat2'.elem0 Nom.len hy rfl)
        have q1_0 := Wd.cell hbr1 (hat1'.elem Nom.len hy 1 rfl)
        have q1_1 := Wd.cell hbr2 (hat2'.elem Nom.len hy 1 rfl)
        have q2_0 := Wd.cell hbr1 (hat1'.elem Nom.len hy 2 rfl)
        have q2_1 := Wd.cell hbr2 (hat2'.elem Nom.len hy 2 rfl)
        have q3_0 := Wd.cell hbr1 (hat1'.elem Nom.len hy 3 rfl)
        have q3_1 := Wd.cell hbr2 (hat2'.elem Nom.len hy 3 rfl)
        have gk : (k : Int) < (nx.length : Int) := by omega
        clear hy hat1 hat2 hat1' hat2' hbw
        go_wp2_with fail
        ((refine wp_region_wd (by kernel_rfl) (by kernel_rfl) ?_); (repeat (go_big_quiet_step ((first | fail)))); (refine wpQuiet_nil ?_); rintro wn ⟨⟨w'', hbn⟩, hw''⟩; obtain rfl : wn = w'' := hw''; (obtain ⟨hcn, hfn⟩ := bcell hbn; have hzn := hbn.size; (try simp at hzn); clear hcn hfn))
        go_wp2
        go_roundw
        case rel => exact ⟨k + 1, by omega, by go_num, Below.via hbH.out hbn hbH.out.size⟩
        case measure => simp [intOf]; omega
      · have g1 : ¬ (k : Int) < (nx.length : Int) := by omega
        have HBr := HBX.out.below hbw hlt1
        have HBs := HBY.out.below hbw hlt2
        have hy7 := HBr.lt; have cw7_0 := HBr.cell 0 rfl; have fw7_0 := HBr.frozen 0 rfl; have cw7_1 := HBr.cell 1 rfl; have fw7_1 := HBr.frozen 1 rfl
        have hy8 := HBs.lt; have cw8_0 := HBs.cell 0 rfl; have fw8_0 := HBs.frozen 0 rfl; have cw8_1 := HBs.cell 1 rfl; have fw8_1 := HBs.frozen 1 rfl; have cw8_2 := HBs.cell 2 rfl; have fw8_2 := HBs.frozen 2 rfl; have cw8_3 := HBs.cell 3 rfl; have fw8_3 := HBs.frozen 3 rfl
        clear HBr HBs hbw
        
        go_wp2_with fail
        refine (impl_NominatedFor A Bq Al A2 _ c _ d cl c2 N l nx x.con x.hr _ (HN6.out.below hbH.out) rfl rfl hnc (HL6.out.below hbH.out) (by omega) (HX6.out.below hbH.out) (by omega)).mono ?_
        rintro e w7 ⟨rfl, hb7⟩
        rw [HQ3.out]
        have HB7 := Lib.hid (hbH.out.trans (hb7.mono hzw))
        have HBr := HBX.out.below HB7.out hlt1
        have HBs := HBY.out.below HB7.out hlt2
        clear cw7_0 cw7_1 fw7_0 fw7_1 hy7 hy8 cw8_0 cw8_1 cw8_2 cw8_3 fw8_0 fw8_1 fw8_2 fw8_3 hb7
        
        have hy7 := HBr.lt; have cw7_0 := HBr.cell 0 rfl; have fw7_0 := HBr.frozen 0 rfl; have cw7_1 := HBr.cell 1 rfl; have fw7_1 := HBr.frozen 1 rfl
        have hy8 := HBs.lt; have cw8_0 := HBs.cell 0 rfl; have fw8_0 := HBs.frozen 0 rfl; have cw8_1 := HBs.cell 1 rfl; have fw8_1 := HBs.frozen 1 rfl; have cw8_2 := HBs.cell 2 rfl; have fw8_2 := HBs.frozen 2 rfl; have cw8_3 := HBs.cell 3 rfl; have fw8_3 := HBs.frozen 3 rfl
        clear HBr HBs
        have hz7 := HB7.out.size
        go_wp2_with fail
        refine ((impl_HistoryOf A Bq Al A2 _ c _ d cl c2 N l nx x.con x.hr _ (HN6.out.below HB7.out) rfl rfl hnc (HL6.out.below HB7.out) (by omega) (HX6.out.below HB7.out) (by omega)).made HQ4.out).mono ?_
        rintro e w8 ⟨A8, c8, rfl, hc8, hW8, hb8⟩
        have HR8 := Lib.hid hW8.rd
        have HB8 := Lib.hid (HB7.out.trans (hb8.mono hz7))
        have HBr := HBX.out.below HB8.out hlt1
        have HBs := HBY.out.below HB8.out hlt2
        clear hW8 cw7_0 cw7_1 fw7_0 fw7_1 hy7 hy8 cw8_0 cw8_1 cw8_2 cw8_3 fw8_0 fw8_1 fw8_2 fw8_3 hb8
        have hy7 := HBr.lt; have cw7_0 := HBr.cell 0 rfl; have fw7_0 := HBr.frozen 0 rfl; have cw7_1 := HBr.cell 1 rfl; have fw7_1 := HBr.frozen 1 rfl
        have hy8 := HBs.lt; have cw8_0 := HBs.cell 0 rfl; have fw8_0 := HBs.frozen 0 rfl; have cw8_1 := HBs.cell 1 rfl; have fw8_1 := HBs.frozen 1 rfl; have cw8_2 := HBs.cell 2 rfl; have fw8_2 := HBs.frozen 2 rfl; have cw8_3 := HBs.cell 3 rfl; have fw8_3 := HBs.frozen 3 rfl
        clear HBr HBs
        have hz8 := HB8.out.size
        go_wp2_with fail
        refine ((spec_HistoryOf A Bq Al A2 _ c _ d cl c2 N l nx x.con x.hr _ (HN6.out.below HB8.out) rfl rfl (HL6.out.below HB8.out) (by omega) (HX6.out.below HB8.out) (by omega)).made HQ4.out).mono ?_
        rintro e w9 ⟨A9, c9, rfl, hc9, hW9, hb9⟩
        have HR9 := Lib.hid hW9.rd
        have HR89 := Lib.hid (HR8.out.below hb9)
        have HB9 := Lib.hid (HB8.out.trans (hb9.mono hz8))
        have HBr := HBX.out.below HB9.out hlt1
        have HBs := HBY.out.below HB9.out hlt2
        clear hW9 cw7_0 cw7_1 fw7_0 fw7_1 hy7 hy8 cw8_0 cw8_1 cw8_2 cw8_3 fw8_0 fw8_1 fw8_2 fw8_3 hb9
        have hy7 := HBr.lt; have cw7_0 := HBr.cell 0 rfl; have fw7_0 := HBr.frozen 0 rfl; have cw7_1 := HBr.cell 1 rfl; have fw7_1 := HBr.frozen 1 rfl
        have hy8 := HBs.lt; have cw8_0 := HBs.cell 0 rfl; have fw8_0 := HBs.frozen 0 rfl; have cw8_1 := HBs.cell 1 rfl; have fw8_1 := HBs.frozen 1 rfl; have cw8_2 := HBs.cell 2 rfl; have fw8_2 := HBs.frozen 2 rfl; have cw8_3 := HBs.cell 3 rfl; have fw8_3 := HBs.frozen 3 rfl
        clear HBr HBs
        have hz9 := HB9.out.size
        go_wp2_with fail
        refine (laws_likeInts A8 A9 c8 c9 _ _ K _ HR89.out HR9.out rfl rfl hKl).mono ?_
        rintro e w10 ⟨rfl, hb10⟩
        have HR10 := Lib.hid (HR89.out.below hb10)
        have HB10 := Lib.hid (HB9.out.trans (hb10.mono hz9))
        have HBr := HBX.out.below HB10.out hlt1
        have HBs := HBY.out.below HB10.out hlt2
        clear cw7_0 cw7_1 fw7_0 fw7_1 hy7 hy8 cw8_0 cw8_1 cw8_2 cw8_3 fw8_0 fw8_1 fw8_2 fw8_3 hb10
        have hy7 := HBr.lt; have cw7_0 := HBr.cell 0 rfl; have fw7_0 := HBr.frozen 0 rfl; have cw7_1 := HBr.cell 1 rfl; have fw7_1 := HBr.frozen 1 rfl
        have hy8 := HBs.lt; have cw8_0 := HBs.cell 0 rfl; have fw8_0 := HBs.frozen 0 rfl; have cw8_1 := HBs.cell 1 rfl; have fw8_1 := HBs.frozen 1 rfl; have cw8_2 := HBs.cell 2 rfl; have fw8_2 := HBs.frozen 2 rfl; have cw8_3 := HBs.cell 3 rfl; have fw8_3 := HBs.frozen 3 rfl
        clear HBr HBs
        have hz10 := HB10.out.size
        go_wp2_with fail
        refine ((impl_HistoryOf A Bq Al An _ c _ d cl cn N l ln x.con x.hr _ (HN6.out.below HB10.out) rfl rfl hnc (HL6.out.below HB10.out) (by omega) (HM6.out.below HB10.out) (by omega)).made HQ5.out).mono ?_
        rintro e w11 ⟨A11, c11, rfl, hc11, hW11, hb11⟩
        have HR11 := Lib.hid (HR10.out.below hb11)
        have HB11 := Lib.hid (HB10.out.trans (hb11.mono hz10))
        have HBr := HBX.out.below HB11.out hlt1
        have HBs := HBY.out.below HB11.out hlt2
        clear hW11 cw7_0 cw7_1 fw7_0 fw7_1 hy7 hy8 cw8_0 cw8_1 cw8_2 cw8_3 fw8_0 fw8_1 fw8_2 fw8_3 hb11
        have hy7 := HBr.lt; have cw7_0 := HBr.cell 0 rfl; have fw7_0 := HBr.frozen 0 rfl; have cw7_1 := HBr.cell 1 rfl; have fw7_1 := HBr.frozen 1 rfl
        have hy8 := HBs.lt; have cw8_0 := HBs.cell 0 rfl; have fw8_0 := HBs.frozen 0 rfl; have cw8_1 := HBs.cell 1 rfl; have fw8_1 := HBs.frozen 1 rfl; have cw8_2 := HBs.cell 2 rfl; have fw8_2 := HBs.frozen 2 rfl; have cw8_3 := HBs.cell 3 rfl; have fw8_3 := HBs.frozen 3 rfl
        clear HBr HBs
        obtain ⟨bk, ok, rfl, hbk, hatk⟩ := HR11.out.opened (k := H.length) (by simpa using hlk)
        have tk := ints_at hatk HKX.out
        clear hatk
        go_wp2_with ((go_at_call 11; refine (impl_AreNominations A Bq Al A2 _ c _ d cl c2 N l nx _ (HN6.out.below HB11.out) rfl rfl hnc (HL6.out.below HB11.out) (by omega) (HX6.out.below HB11.out) (by omega)).mono ?_; rintro e w12 ⟨rfl, hb12⟩; rw [HQ2.out]))
        go_ret
        exact ⟨rfl, HB6.out.trans ((HB11.out.trans (hb12.mono HB11.out.size)).mono HB6.out.size)⟩
  · have b1 : (code != 0) = true := by simp [e0]
    by_cases e2 : code = 2
    · subst e2
      have HIS := Lib.hid (acc_two HR.out)
      go_wp2_with ((go_at_call 13; refine (impl_IsNomination A Bq Al _ c _ d cl N l x _ HN6.out rfl rfl hnc HL6.out (by omega)).mono ?_; rintro e w7 ⟨rfl, hb7⟩; rw [HIS.out]))
      go_ret
      exact ⟨rfl, HB6.out.trans (hb7.mono HB6.out.size)⟩
    · have b2 : (code != 2) = true := by simp [e2]
      go_wp2
      go_ret
      exact ⟨rfl, HB6.out⟩
end Go.Proofs.Ytigplpbdkjiekaa
