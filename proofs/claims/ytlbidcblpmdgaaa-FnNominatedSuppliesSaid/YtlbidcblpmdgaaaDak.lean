/- The draws of the laws of nominations: a book, nominations, a contract and an hour. -/
import Derived.Test.YtlbidcblpmdgaaaDdb
import Derived.Test.YtlbidcblpmdgaaaDac
namespace Go.Proofs.Ytlbidcblpmdgaaa
set_option linter.unusedVariables false
set_option linter.unusedSimpArgs false
open Go.RowKit
/-- a network, a book and nominations that were drawn, in boxes -/
structure DY (w : World) (p X : Nat) (A Bq Al An : Option Addr) (c d : Nat) (N : Net) (lb : List Ctr) (ln : List Nom) (wr : World) : Prop where
  net : NetAt wr A Bq N
  rd : Rd wr Al (lb.flatMap Ctr.cells)
  rn : Rd wr An (ln.flatMap Nom.cells)
  lA : ∀ b off, A = some ⟨b, off, none⟩ → w.heap.size < b
  lB : ∀ b off, Bq = some ⟨b, off, none⟩ → w.heap.size < b
  lL : ∀ b off, Al = some ⟨b, off, none⟩ → w.heap.size < b
  lN : ∀ b off, An = some ⟨b, off, none⟩ → w.heap.size < b
  src : Src wr p
  kp : Keep (· = p) w wr
  b0 : Bx wr w.heap.size [.slice none 0 0, .slice none 0 0]
  bX : Bx wr X [.slice A N.nodes.length c, .slice Bq N.pipes.length d]
  sX : w.heap.size < X
section
variable {w wr wr' : World} {p X : Nat} {A Bq Al An : Option Addr} {c d : Nat} {N : Net} {lb : List Ctr} {ln : List Nom}
theorem DY.keep (h : DY w p X A Bq Al An c d N lb ln wr) (hp : p < w.heap.size) (hk : Keep (· = p) wr wr') (hs : Src wr' p) : DY w p X A Bq Al An c d N lb ln wr' := by
  have hX := h.sX
  exact ⟨h.net.keepC hk (fun b off e q => by have := h.lA b off e; omega) (fun b off e q => by have := h.lB b off e; omega), h.rd.keep hk (fun b off e q => by have := h.lL b off e; omega), h.rn.keep hk (fun b off e q => by have := h.lN b off e; omega), h.lA, h.lB, h.lL, h.lN, hs, h.kp.trans hk, h.b0.keep hk (by omega), h.bX.keep hk (by omega), hX⟩
theorem DY.below (h : DY w p X A Bq Al An c d N lb ln wr) (hb : Below wr.heap.size wr wr') : DY w p X A Bq Al An c d N lb ln wr' :=
  ⟨h.net.below hb, h.rd.below hb, h.rn.below hb, h.lA, h.lB, h.lL, h.lN, h.src.below hb, h.kp.trans (Keep.of_below _ hb), h.b0.below hb h.b0.lt, h.bX.below hb h.bX.lt, h.sX⟩
/-- what the draw hands back, the result's box written -/
def DrewY (w : World) (p : Nat) (vs : List Value → Prop) (e : Ending) (w' : World) : Prop :=
  ∃ (A Bq Al An : Option Addr) (c d cl cn : Nat) (N : Net) (lb : List Ctr) (ln : List Nom) (us : List Value), e = .returned (.tuple (#[netV A Bq N.nodes.length c N.pipes.length d, .slice Al lb.length cl, .slice An ln.length cn] ++ us.toArray)) ∧ vs us ∧ N.nodes.length ≤ c ∧ NetAt w' A Bq N ∧ Rd w' Al (lb.flatMap Ctr.cells) ∧ Rd w' An (ln.flatMap Nom.cells) ∧ lb.length ≤ 33 ∧ CtSm lb ∧ ln.length ≤ 201 ∧ NmSm ln ∧ Src w' p ∧ Keep (· = p) w w' ∧ (∀ b off, A = some ⟨b, off, none⟩ → w.heap.size ≤ b) ∧ (∀ b off, Bq = some ⟨b, off, none⟩ → w.heap.size ≤ b) ∧ (∀ b off, Al = some ⟨b, off, none⟩ → w.heap.size ≤ b) ∧ (∀ b off, An = some ⟨b, off, none⟩ → w.heap.size ≤ b)
theorem dy_post {cl cn : Nat} {vs : List Value → Prop} (us : List Value) (hv : vs us) (h : DY w p X A Bq Al An c d N lb ln wr) (hp : p < w.heap.size) (hk : Keep (fun k => k = p ∨ k = w.heap.size) wr wr') (hs : Src wr' p) (hnc : N.nodes.length ≤ c) (hl : lb.length ≤ 33) (hok : CtSm lb) (hl2 : ln.length ≤ 201) (hok2 : NmSm ln) :
    DrewY w p vs (.returned (.tuple (#[netV A Bq N.nodes.length c N.pipes.length d, .slice Al lb.length cl, .slice An ln.length cn] ++ us.toArray))) wr' :=
  ⟨A, Bq, Al, An, c, d, cl, cn, N, lb, ln, us, rfl, hv, hnc, h.net.keepC hk (fun b off e q => by have := h.lA b off e; omega) (fun b off e q => by have := h.lB b off e; omega), h.rd.keep hk (fun b off e q => by have := h.lL b off e; omega), h.rn.keep hk (fun b off e q => by have := h.lN b off e; omega), hl, hok, hl2, hok2, hs, h.kp.to hk (Nat.le_refl _), fun b off e => Nat.le_of_lt (h.lA b off e), fun b off e => Nat.le_of_lt (h.lB b off e), fun b off e => Nat.le_of_lt (h.lL b off e), fun b off e => Nat.le_of_lt (h.lN b off e)⟩
end
set_option maxRecDepth 100000 in
set_option maxHeartbeats 8000000 in
theorem spec_l21DrawAsk (p : Nat) (w : World) (h : Src w p) :
    Calls Try.prog 31 #[.pointer (some ⟨p, 0, none⟩)] w (DrewY w p (fun us => ∃ x y : Int, us = [.int .i64 x, .int .i64 y])) := by
  have hp := h.lt
  have HS := Lib.hid h
  clear h
  go_enter Try.func31, Try.ntmps31
  go_wp2_with fail
  have HB0 := Lib.hid (show Bx (w.alloc (.cells #[.slice none 0 0, .slice none 0 0] 27)) w.heap.size [.slice none 0 0, .slice none 0 0] from (bx2 (by first | exact hy0 | go_size) (by first | (with_reducible exact cw0_0) | go_cell_look | (simp [go_sem, hy0, cw0_0, fw0_0, cw0_1, fw0_1]; done) | (simp [go_sem]; done)) (by first | (with_reducible exact fw0_0) | (simp only [World.frozen?_setCell, fw0_0]; done) | (simp [go_sem, hy0, cw0_0, fw0_0, cw0_1, fw0_1]; done) | (simp [go_sem]; done)) (by first | (with_reducible exact cw0_1) | go_cell_look | (simp [go_sem, hy0, cw0_0, fw0_0, cw0_1, fw0_1]; done) | (simp [go_sem]; done)) (by first | (with_reducible exact fw0_1) | (simp only [World.frozen?_setCell, fw0_1]; done) | (simp [go_sem, hy0, cw0_0, fw0_0, cw0_1, fw0_1]; done) | (simp [go_sem]; done))))
  refine (spec_l21Draw p _ (HS.out.below (by (repeat' (first | (with_reducible exact Below.refl _ _) | (with_reducible assumption) | (with_reducible refine Below.alloc ?_ ?_ _) | (with_reducible refine Below.drew ?_) | (with_reducible refine Below.drewN' ?_ _) | (with_reducible refine Below.setCell ?_ ?_ _) | (refine Below.via ?_ (by with_reducible assumption) ?_) | (with_reducible refine Below.via ?_ (Wd.h _) ?_) | go_size))))).mono ?_
  rintro e w1 ⟨A, Bq, Al, An, c, d, cl, cn, N, lb, ln, rfl, hnc, hN, hL, hM, hl33, hok, hn201, hnk, hs1, hk1, hA, hB, hAl, hAn, -, -, -, -⟩
  have HOK := Lib.hid hok
  have HNK := Lib.hid hnk
  have hz1 := hk1.size
  simp at hz1
  go_upto_region 2 with (fail)
  generalize hW : World.alloc w1 _ = w2
  have hb2 : Below w1.heap.size w1 w2 := by rw [← hW]; (repeat' (first | (with_reducible exact Below.refl _ _) | (with_reducible assumption) | (with_reducible refine Below.alloc ?_ ?_ _) | (with_reducible refine Below.drew ?_) | (with_reducible refine Below.drewN' ?_ _) | (with_reducible refine Below.setCell ?_ ?_ _) | (refine Below.via ?_ (by with_reducible assumption) ?_) | (with_reducible refine Below.via ?_ (Wd.h _) ?_) | go_size))
  have H2 := Lib.hid (show DY w p w1.heap.size A Bq Al An c d N lb ln w2 from ⟨hN.below hb2, hL.below hb2, hM.below hb2, fun b off e => by have := hA b off e; simp at this; omega, fun b off e => by have := hB b off e; simp at this; omega, fun b off e => by have := hAl b off e; simp at this; omega, fun b off e => by have := hAn b off e; simp at this; omega, hs1.below hb2, (show Keep (· = p) w w1 by (repeat' (first | (with_reducible exact Keep.refl _ _) | (with_reducible assumption) | (with_reducible refine Keep.alloc ?_ _) | (with_reducible refine Keep.drew ?_) | (with_reducible refine Keep.drewN ?_ _) | (refine Keep.trans ?_ (by with_reducible assumption)) | (refine Keep.via ?_ (by with_reducible assumption)) | (with_reducible refine Keep.new ?_ ?_ _) | go_size))).trans (Keep.of_below _ hb2), (HB0.out.keep hk1 (by omega)).below hb2 (by have := (HB0.out.keep hk1 (by omega)).lt; omega), by rw [← hW]; exact bx2 (by simp) (by simp) (by simp) (by simp) (by simp), by omega⟩)
  clear hW hb2 HB0 hN hL hM hs1 hk1 hA hB hAl hAn hok hnk hz1
  obtain ⟨X, hX⟩ : ∃ X, X = w1.heap.size := ⟨_, rfl⟩
  rw [← hX] at H2
  rw [← hX]
  clear hX
  have hsX := H2.out.sX
  by_cases hn0 : ln.length = 0
  · have g2 : ¬ (0 : Int) < (ln.length : Int) := by omega
    clear hn0
    go_wp2_with fail
    have hzk := H2.out.kp.size
    have hb0l := H2.out.b0.lt
    refine wp_region_tb (R := Zr) [some 39, some 40, some 41, some 42, some 43, some 44, some 45, some 46, some 47, none, some 3, some 4, some 5, some 6] _ (by intro u; simp only [frs, Act.put, List.setIfInBounds_toArray, List.set_cons_zero, List.set_cons_succ, Nat.reduceAdd]; exact rfl) (fun ρ j => ([.agg #[.slice A N.nodes.length c, .slice Bq N.pipes.length d], .slice Al lb.length cl, .slice An ln.length cn, .pointer (some ⟨p, 0, none⟩), .slice Al lb.length cl, .int .i64 (lb.length : Int), .int .i64 (ρ.r 6), .pointer (some ⟨p, 0, none⟩), .int .i64 (ρ.r 8), undef, .slice Al lb.length cl, .slice An ln.length cn, .int .i64 (ρ.r 6), .int .i64 (ρ.r 8)] : List Value).getD j undef) (WZ p (fun k => k = w.heap.size) [] [] 9 (fun wt => Bx wt w.heap.size [.slice none 0 0, .slice none 0 0]) (fun _ wt => Src wt p ∧ Bx wt w.heap.size [.slice A N.nodes.length c, .slice Bq N.pipes.length d]) w2) (by kernel_rfl) (by kernel_rfl) Zr.zero (WZ.start (Keep.of_below _ (Below.drew (Below.refl _ _))) (H2.out.src.below (Below.drew (Below.refl _ _))) (H2.out.b0.below (Below.drew (Below.refl w2.heap.size _)) H2.out.b0.lt)) ?_ ?_
    · intro ii hii L ρ u wx hl hp hc hu hn hW
      have hii : ii < 14 := hii
      have HNo := Lib.hid hn
      clear hn
      have hii : ii = 0 ∨ ii = 1 ∨ ii = 2 ∨ ii = 3 ∨ ii = 4 ∨ ii = 5 ∨ ii = 6 ∨ ii = 7 ∨ ii = 8 ∨ ii = 9 ∨ ii = 10 ∨ ii = 11 ∨ ii = 12 ∨ ii = 13 := by omega
      rcases hii with rfl | rfl | rfl | rfl | rfl | rfl | rfl | rfl | rfl | rfl | rfl | rfl | rfl | rfl
      · have hbX := H2.out.bX.keep hW.kp (fun q => by omega)
        have xx0 := hbX.cell 0 rfl
        have xx1 := hbX.cell 1 rfl
        clear hbX
        refine wpOp_go (E := True) rfl rfl (fun K' hK => ?_)
        go_simp
        refine hK.out _ _ ⟨ρ, (by simp only [put]; rfl), fun _ _ => rfl, hW.pure rfl rfl (by omega)⟩
      · refine wpOp_go (E := True) rfl rfl (fun K' hK => ?_)
        go_simp
        refine hK.out _ _ ⟨ρ, (by simp only [put]; rfl), fun _ _ => rfl, hW.pure rfl rfl (by omega)⟩
      · refine wpOp_go (E := True) rfl rfl (fun K' hK => ?_)
        go_simp
        refine hK.out _ _ ⟨ρ, (by simp only [put]; rfl), fun _ _ => rfl, hW.pure rfl rfl (by omega)⟩
      · refine wpOp_go (E := True) rfl rfl (fun K' hK => ?_)
        go_simp
        refine hK.out _ _ ⟨ρ, (by simp only [put]; rfl), fun _ _ => rfl, hW.pure rfl rfl (by omega)⟩
      · refine wpOp_go (E := True) rfl rfl (fun K' hK => ?_)
        go_simp
        refine hK.out _ _ ⟨ρ, (by simp only [put]; rfl), fun _ _ => rfl, hW.pure rfl rfl (by omega)⟩
      · have e4 : u 4 = .slice Al lb.length cl := hu 4 (all_of hp (by kernel_rfl))
        refine wpOp_go (E := True) rfl rfl (fun K' hK => ?_)
        go_simp
        refine hK.out _ _ ⟨ρ, (by simp only [put, e4]; rfl), fun _ _ => rfl, hW.pure rfl rfl (by omega)⟩
      · have e3 : u 3 = .pointer (some ⟨p, 0, none⟩) := hu 3 (all_of hp (by kernel_rfl))
        have e5 : u 5 = .int .i64 (lb.length : Int) := hu 5 (all_of hp (by kernel_rfl))
        have nk8 : L 8 = false := no_later hc hl (by kernel_rfl)
        have nks : L 9 = false := no_later hc nk8 (by kernel_rfl)
        refine wpOp_go (E := True) rfl rfl (fun K' hK => ?_)
        go_simp
        go_at_call 50
        refine (spec_l02DrawIndex _ _ _ (hW.sr nks) (by omega)).mono ?_
        rintro e' w5 ⟨r, rfl, -, -, hs5, hk5⟩
        refine hK.out _ _ ⟨ρ.drawn 6 r, (by simp only [put, e3, e5]; rfl), fun j hj => by
            have n12 : L 12 = false := no_later hc hl (by kernel_rfl)
            match j, hj with
            | 0, _ => rfl
            | 1, _ => rfl
            | 2, _ => rfl
            | 3, _ => rfl
            | 4, _ => rfl
            | 5, _ => rfl
            | 6, hj => rw [hl] at hj; cases hj
            | 7, _ => rfl
            | 8, _ => rfl
            | 9, _ => rfl
            | 10, _ => rfl
            | 11, _ => rfl
            | 12, hj => rw [n12] at hj; cases hj
            | 13, _ => rfl
            | _ + 14, _ => rfl, hW.call rfl (by omega) nks (by omega) hk5 hs5 (fun h1 => h1.keep hk5 (by omega)) (by intro n hn; simp at hn)⟩
      · refine wpOp_go (E := True) rfl rfl (fun K' hK => ?_)
        go_simp
        refine hK.out _ _ ⟨ρ, (by simp only [put]; rfl), fun _ _ => rfl, hW.pure rfl rfl (by omega)⟩
      · have e7 : u 7 = .pointer (some ⟨p, 0, none⟩) := hu 7 (all_of hp (by kernel_rfl))
        have nks : L 9 = false := no_later hc hl (by kernel_rfl)
        refine wpOp_go (E := True) rfl rfl (fun K' hK => ?_)
        go_simp
        go_at_call 51
        refine (spec_l20DrawHour _ _ (hW.sr nks)).mono ?_
        rintro e' w5 ⟨r, rfl, hs5, hk5⟩
        refine hK.out _ _ ⟨ρ.drawn 8 r, (by simp only [put, e7]; rfl), fun j hj => by
            have n13 : L 13 = false := no_later hc hl (by kernel_rfl)
            match j, hj with
            | 0, _ => rfl
            | 1, _ => rfl
            | 2, _ => rfl
            | 3, _ => rfl
            | 4, _ => rfl
            | 5, _ => rfl
            | 6, _ => rfl
            | 7, _ => rfl
            | 8, hj => rw [hl] at hj; cases hj
            | 9, _ => rfl
            | 10, _ => rfl
            | 11, _ => rfl
            | 12, _ => rfl
            | 13, hj => rw [n13] at hj; cases hj
            | _ + 14, _ => rfl, hW.call rfl (by omega) nks (by omega) hk5 hs5 (fun h1 => h1.keep hk5 (by omega)) (by intro n hn; simp at hn)⟩
      · have e0 : u 0 = .agg #[.slice A N.nodes.length c, .slice Bq N.pipes.length d] := hu 0 (all_of hp (by kernel_rfl))
        have hb0 := hW.t0 hl
        have hyX := hb0.lt
        have xx0 := hb0.cell 0 rfl
        have xx1 := hb0.cell 1 rfl
        have xf0 := hb0.frozen 0 rfl
        have xf1 := hb0.frozen 1 rfl
        clear hb0
        refine wpOp_go (E := True) rfl rfl (fun K' hK => ?_)
        go_simp
        refine hK.out _ _ ⟨ρ, (by simp only [put, e0]; rfl), fun _ _ => rfl, hW.store rfl rfl (by intro k q; omega) ((((Keep.refl (· = w.heap.size) _).one _).one _).wide fun k q => Or.inr q) ⟨(hW.sr hl).high (B := p + 1) (by (repeat' (first | (with_reducible exact Below.refl _ _) | (with_reducible assumption) | (with_reducible refine Below.alloc ?_ ?_ _) | (with_reducible refine Below.drew ?_) | (with_reducible refine Below.drewN' ?_ _) | (with_reducible refine Below.setCell ?_ ?_ _) | (refine Below.via ?_ (by with_reducible assumption) ?_) | (with_reducible refine Below.via ?_ (Wd.h _) ?_) | go_size))) (by omega), bx2 (by simp; omega) (by simp [go_sem, xx0, xx1]) (by simp [go_sem, xf0]) (by simp [go_sem, xx0, xx1]) (by simp [go_sem, xf1])⟩⟩
      · have e1 : u 1 = .slice Al lb.length cl := hu 1 (all_of hp (by kernel_rfl))
        refine wpOp_go (E := True) rfl rfl (fun K' hK => ?_)
        go_simp
        refine hK.out _ _ ⟨ρ, (by simp only [put, e1]; rfl), fun _ _ => rfl, hW.pure rfl rfl (by omega)⟩
      · have e2 : u 2 = .slice An ln.length cn := hu 2 (all_of hp (by kernel_rfl))
        refine wpOp_go (E := True) rfl rfl (fun K' hK => ?_)
        go_simp
        refine hK.out _ _ ⟨ρ, (by simp only [put, e2]; rfl), fun _ _ => rfl, hW.pure rfl rfl (by omega)⟩
      · have e6 : u 6 = .int .i64 (ρ.r 6) := hu 6 (all_of hp (by kernel_rfl))
        refine wpOp_go (E := True) rfl rfl (fun K' hK => ?_)
        go_simp
        refine hK.out _ _ ⟨ρ, (by simp only [put, e6]; rfl), fun _ _ => rfl, hW.pure rfl rfl (by omega)⟩
      · have e8 : u 8 = .int .i64 (ρ.r 8) := hu 8 (all_of hp (by kernel_rfl))
        refine wpOp_go (E := True) rfl rfl (fun K' hK => ?_)
        go_simp
        refine hK.out _ _ ⟨ρ, (by simp only [put, e8]; rfl), fun _ _ => rfl, hW.pure rfl rfl (by omega)⟩
    · intro L ρ u wx hall hu hW
      obtain ⟨hsv, hb0⟩ := hW.t1 (hall 9 (by show 9 < 14; omega))
      have cw0_0 := hb0.cell 0 rfl
      have cw0_1 := hb0.cell 1 rfl
      have eR0 : u 10 = .slice Al lb.length cl := hu 10 (by show 10 < 14; omega)
      have eR1 : u 11 = .slice An ln.length cn := hu 11 (by show 11 < 14; omega)
      have eR2 : u 12 = .int .i64 (ρ.r 6) := hu 12 (by show 12 < 14; omega)
      have eR3 : u 13 = .int .i64 (ρ.r 8) := hu 13 (by show 13 < 14; omega)
      have hkp := hW.kp
      clear hu hall hW hb0
      go_wp2
      refine bodyPost_ret (by simp [results, Try.results31, go_sem, cw0_0, cw0_1]; try rfl) rfl ?_
      have := dy_post (cl := cl) (cn := cn) (vs := fun us => ∃ x y : Int, us = [.int .i64 x, .int .i64 y]) [.int .i64 (ρ.r 6), .int .i64 (ρ.r 8)] ⟨_, _, rfl⟩ H2.out hp hkp hsv hnc hl33 HOK.out hn201 HNK.out
      simpa [netV, eR0, eR1, eR2, eR3] using this
  · have g2 : (0 : Int) < (ln.length : Int) := by omega
    have hn1 : 1 ≤ ln.length := by omega
    clear hn0
    go_wp2_with fail
    refine (spec_l01Next p _ _ H2.out.src (by omega)).mono ?_
    rintro e w3 ⟨z, rfl, za, _, zb, hs3, hk3⟩
    have H3 := Lib.hid (H2.out.keep hp hk3 hs3)
    clear hs3 hk3 zb H2
    by_cases z0 : 0 < z
    · have b0 : decide (0 < z) = true := by simpa using z0
      go_wp2_with fail
      refine (spec_l01Next p _ _ H3.out.src (by omega)).mono ?_
      rintro e w4 ⟨r, rfl, ra, rz, rb, hs4, hk4⟩
      have rc : r < ln.length := by
        by_cases h1 : ((ln.length : Nat) : Int) ≤ 1
        · have := rz h1; omega
        · have := rb (by omega); omega
      obtain ⟨k, hk⟩ : ∃ k : Nat, r = k := ⟨r.toNat, by omega⟩
      subst hk
      have hlt : k < ln.length := by omega
      have H4 := Lib.hid (H3.out.keep hp hk4 hs4)
      clear hs4 hk4 rb rz H3
      obtain ⟨x, hx⟩ := get_some hlt
      obtain ⟨bx, offx, rfl, hbx, hat⟩ := H4.out.rn.opened (k := k) (by rw [flat_len Nom.len]; omega)
      have t0 := hat.elem0 Nom.len hx rfl
      have t1 := hat.elem Nom.len hx 1 rfl
      have t2 := hat.elem Nom.len hx 2 rfl
      have t3 := hat.elem Nom.len hx 3 rfl
      have gk : (k : Int) < (ln.length : Int) := by omega
      clear hx hat
      go_upto_region 4 with (fail)
      generalize hW : World.alloc w4 _ = w5
      have hb5 : Below w4.heap.size w4 w5 := by rw [← hW]; (repeat' (first | (with_reducible exact Below.refl _ _) | (with_reducible assumption) | (with_reducible refine Below.alloc ?_ ?_ _) | (with_reducible refine Below.drew ?_) | (with_reducible refine Below.drewN' ?_ _) | (with_reducible refine Below.setCell ?_ ?_ _) | (refine Below.via ?_ (by with_reducible assumption) ?_) | (with_reducible refine Below.via ?_ (Wd.h _) ?_) | go_size))
      have HX := Lib.hid (show Bx w5 w4.heap.size x.cells by rw [← hW]; exact bx4 (by simp) (by simp) (by simp) (by simp) (by simp) (by simp) (by simp) (by simp) (by simp))
      have H5 := Lib.hid (H4.out.below hb5)
      have hz4 := H4.out.kp.size
      have hxl := H4.out.bX.lt
      have hzk := H5.out.kp.size
      have hb0l := H5.out.b0.lt
      have hlX := HX.out.lt
      clear hW hb5 H4 t0 t1 t2 t3
      generalize w4.heap.size = g at *
      go_wp2_with fail
      refine wp_region_tb (R := Zr) [some 32, some 33, some 34, some 35, some 36, some 37, some 38, none, some 3, some 4, some 5, some 6] _ (by intro u; simp only [frs, Act.put, List.setIfInBounds_toArray, List.set_cons_zero, List.set_cons_succ, Nat.reduceAdd]; exact rfl) (fun ρ j => ([.agg #[.slice A N.nodes.length c, .slice Bq N.pipes.length d], .slice Al lb.length cl, .slice (some ⟨bx, offx, none⟩) ln.length cn, .pointer (some ⟨g, 0, none⟩), .int .i64 x.con, .pointer (some ⟨g, 1, none⟩), .int .i64 x.hr, undef, .slice Al lb.length cl, .slice (some ⟨bx, offx, none⟩) ln.length cn, .int .i64 x.con, .int .i64 x.hr] : List Value).getD j undef) (WZ p (fun k => k = w.heap.size) [] [] 7 (fun wt => Bx wt w.heap.size [.slice none 0 0, .slice none 0 0]) (fun _ wt => Src wt p ∧ Bx wt w.heap.size [.slice A N.nodes.length c, .slice Bq N.pipes.length d]) w5) (by kernel_rfl) (by kernel_rfl) Zr.zero (WZ.start (Keep.of_below _ (Below.drew (Below.refl _ _))) (H5.out.src.below (Below.drew (Below.refl _ _))) (H5.out.b0.below (Below.drew (Below.refl w5.heap.size _)) H5.out.b0.lt)) ?_ ?_
      · intro ii hii L ρ u wx hl hp hc hu hn hW
        have hii : ii < 12 := hii
        have HNo := Lib.hid hn
        clear hn
        have hii : ii = 0 ∨ ii = 1 ∨ ii = 2 ∨ ii = 3 ∨ ii = 4 ∨ ii = 5 ∨ ii = 6 ∨ ii = 7 ∨ ii = 8 ∨ ii = 9 ∨ ii = 10 ∨ ii = 11 := by omega
        rcases hii with rfl | rfl | rfl | rfl | rfl | rfl | rfl | rfl | rfl | rfl | rfl | rfl
        · have hbX := H5.out.bX.keep hW.kp (fun q => by omega)
          have xx0 := hbX.cell 0 rfl
          have xx1 := hbX.cell 1 rfl
          clear hbX
          refine wpOp_go (E := True) rfl rfl (fun K' hK => ?_)
          go_simp
          refine hK.out _ _ ⟨ρ, (by simp only [put]; rfl), fun _ _ => rfl, hW.pure rfl rfl (by omega)⟩
        · refine wpOp_go (E := True) rfl rfl (fun K' hK => ?_)
          go_simp
          refine hK.out _ _ ⟨ρ, (by simp only [put]; rfl), fun _ _ => rfl, hW.pure rfl rfl (by omega)⟩
        · refine wpOp_go (E := True) rfl rfl (fun K' hK => ?_)
          go_simp
          refine hK.out _ _ ⟨ρ, (by simp only [put]; rfl), fun _ _ => rfl, hW.pure rfl rfl (by omega)⟩
        · refine wpOp_go (E := True) rfl rfl (fun K' hK => ?_)
          go_simp
          refine hK.out _ _ ⟨ρ, (by simp only [put]; rfl), fun _ _ => rfl, hW.pure rfl rfl (by omega)⟩
        · have e3 : u 3 = .pointer (some ⟨g, 0, none⟩) := hu 3 (all_of hp (by kernel_rfl))
          have hbX := HX.out.keep hW.kp (fun q => by omega)
          have xx0 := hbX.cell 0 rfl
          clear hbX
          refine wpOp_go (E := True) rfl rfl (fun K' hK => ?_)
          go_simp
          refine hK.out _ _ ⟨ρ, (by simp only [put, e3]; rfl), fun _ _ => rfl, hW.pure rfl rfl (by omega)⟩
        · refine wpOp_go (E := True) rfl rfl (fun K' hK => ?_)
          go_simp
          refine hK.out _ _ ⟨ρ, (by simp only [put]; rfl), fun _ _ => rfl, hW.pure rfl rfl (by omega)⟩
        · have e5 : u 5 = .pointer (some ⟨g, 1, none⟩) := hu 5 (all_of hp (by kernel_rfl))
          have hbX := HX.out.keep hW.kp (fun q => by omega)
          have xx1 := hbX.cell 1 rfl
          clear hbX
          refine wpOp_go (E := True) rfl rfl (fun K' hK => ?_)
          go_simp
          refine hK.out _ _ ⟨ρ, (by simp only [put, e5]; rfl), fun _ _ => rfl, hW.pure rfl rfl (by omega)⟩
        · have e0 : u 0 = .agg #[.slice A N.nodes.length c, .slice Bq N.pipes.length d] := hu 0 (all_of hp (by kernel_rfl))
          have hb0 := hW.t0 hl
          have hyX := hb0.lt
          have xx0 := hb0.cell 0 rfl
          have xx1 := hb0.cell 1 rfl
          have xf0 := hb0.frozen 0 rfl
          have xf1 := hb0.frozen 1 rfl
          clear hb0
          refine wpOp_go (E := True) rfl rfl (fun K' hK => ?_)
          go_simp
          refine hK.out _ _ ⟨ρ, (by simp only [put, e0]; rfl), fun _ _ => rfl, hW.store rfl rfl (by intro k q; omega) ((((Keep.refl (· = w.heap.size) _).one _).one _).wide fun k q => Or.inr q) ⟨(hW.sr hl).high (B := p + 1) (by (repeat' (first | (with_reducible exact Below.refl _ _) | (with_reducible assumption) | (with_reducible refine Below.alloc ?_ ?_ _) | (with_reducible refine Below.drew ?_) | (with_reducible refine Below.drewN' ?_ _) | (with_reducible refine Below.setCell ?_ ?_ _) | (refine Below.via ?_ (by with_reducible assumption) ?_) | (with_reducible refine Below.via ?_ (Wd.h _) ?_) | go_size))) (by omega), bx2 (by simp; omega) (by simp [go_sem, xx0, xx1]) (by simp [go_sem, xf0]) (by simp [go_sem, xx0, xx1]) (by simp [go_sem, xf1])⟩⟩
        · have e1 : u 1 = .slice Al lb.length cl := hu 1 (all_of hp (by kernel_rfl))
          refine wpOp_go (E := True) rfl rfl (fun K' hK => ?_)
          go_simp
          refine hK.out _ _ ⟨ρ, (by simp only [put, e1]; rfl), fun _ _ => rfl, hW.pure rfl rfl (by omega)⟩
        · have e2 : u 2 = .slice (some ⟨bx, offx, none⟩) ln.length cn := hu 2 (all_of hp (by kernel_rfl))
          refine wpOp_go (E := True) rfl rfl (fun K' hK => ?_)
          go_simp
          refine hK.out _ _ ⟨ρ, (by simp only [put, e2]; rfl), fun _ _ => rfl, hW.pure rfl rfl (by omega)⟩
        · have e4 : u 4 = .int .i64 x.con := hu 4 (all_of hp (by kernel_rfl))
          refine wpOp_go (E := True) rfl rfl (fun K' hK => ?_)
          go_simp
          refine hK.out _ _ ⟨ρ, (by simp only [put, e4]; rfl), fun _ _ => rfl, hW.pure rfl rfl (by omega)⟩
        · have e6 : u 6 = .int .i64 x.hr := hu 6 (all_of hp (by kernel_rfl))
          refine wpOp_go (E := True) rfl rfl (fun K' hK => ?_)
          go_simp
          refine hK.out _ _ ⟨ρ, (by simp only [put, e6]; rfl), fun _ _ => rfl, hW.pure rfl rfl (by omega)⟩
      · intro L ρ u wx hall hu hW
        obtain ⟨hsv, hb0⟩ := hW.t1 (hall 7 (by show 7 < 12; omega))
        have cw0_0 := hb0.cell 0 rfl
        have cw0_1 := hb0.cell 1 rfl
        have eR0 : u 8 = .slice Al lb.length cl := hu 8 (by show 8 < 12; omega)
        have eR1 : u 9 = .slice (some ⟨bx, offx, none⟩) ln.length cn := hu 9 (by show 9 < 12; omega)
        have eR2 : u 10 = .int .i64 (x.con) := hu 10 (by show 10 < 12; omega)
        have eR3 : u 11 = .int .i64 (x.hr) := hu 11 (by show 11 < 12; omega)
        have hkp := hW.kp
        clear hu hall hW hb0
        go_wp2
        refine bodyPost_ret (by simp [results, Try.results31, go_sem, cw0_0, cw0_1]; try rfl) rfl ?_
        have := dy_post (cl := cl) (cn := cn) (vs := fun us => ∃ x y : Int, us = [.int .i64 x, .int .i64 y]) [.int .i64 (x.con), .int .i64 (x.hr)] ⟨_, _, rfl⟩ H5.out hp hkp hsv hnc hl33 HOK.out hn201 HNK.out
        simpa [netV, eR0, eR1, eR2, eR3] using this
    · have b0 : decide (0 < z) = false := by simpa using z0
      go_wp2_with fail
      have hzk := H3.out.kp.size
      have hb0l := H3.out.b0.lt
      refine wp_region_tb (R := Zr) [some 39, some 40, some 41, some 42, some 43, some 44, some 45, some 46, some 47, none, some 3, some 4, some 5, some 6] _ (by intro u; simp only [frs, Act.put, List.setIfInBounds_toArray, List.set_cons_zero, List.set_cons_succ, Nat.reduceAdd]; exact rfl) (fun ρ j => ([.agg #[.slice A N.nodes.length c, .slice Bq N.pipes.length d], .slice Al lb.length cl, .slice An ln.length cn, .pointer (some ⟨p, 0, none⟩), .slice Al lb.length cl, .int .i64 (lb.length : Int), .int .i64 (ρ.r 6), .pointer (some ⟨p, 0, none⟩), .int .i64 (ρ.r 8), undef, .slice Al lb.length cl, .slice An ln.length cn, .int .i64 (ρ.r 6), .int .i64 (ρ.r 8)] : List Value).getD j undef) (WZ p (fun k => k = w.heap.size) [] [] 9 (fun wt => Bx wt w.heap.size [.slice none 0 0, .slice none 0 0]) (fun _ wt => Src wt p ∧ Bx wt w.heap.size [.slice A N.nodes.length c, .slice Bq N.pipes.length d]) w3) (by kernel_rfl) (by kernel_rfl) Zr.zero (WZ.start (Keep.of_below _ (Below.drew (Below.refl _ _))) (H3.out.src.below (Below.drew (Below.refl _ _))) (H3.out.b0.below (Below.drew (Below.refl w3.heap.size _)) H3.out.b0.lt)) ?_ ?_
      · intro ii hii L ρ u wx hl hp hc hu hn hW
        have hii : ii < 14 := hii
        have HNo := Lib.hid hn
        clear hn
        have hii : ii = 0 ∨ ii = 1 ∨ ii = 2 ∨ ii = 3 ∨ ii = 4 ∨ ii = 5 ∨ ii = 6 ∨ ii = 7 ∨ ii = 8 ∨ ii = 9 ∨ ii = 10 ∨ ii = 11 ∨ ii = 12 ∨ ii = 13 := by omega
        rcases hii with rfl | rfl | rfl | rfl | rfl | rfl | rfl | rfl | rfl | rfl | rfl | rfl | rfl | rfl
        · have hbX := H3.out.bX.keep hW.kp (fun q => by omega)
          have xx0 := hbX.cell 0 rfl
          have xx1 := hbX.cell 1 rfl
          clear hbX
          refine wpOp_go (E := True) rfl rfl (fun K' hK => ?_)
          go_simp
          refine hK.out _ _ ⟨ρ, (by simp only [put]; rfl), fun _ _ => rfl, hW.pure rfl rfl (by omega)⟩
        · refine wpOp_go (E := True) rfl rfl (fun K' hK => ?_)
          go_simp
          refine hK.out _ _ ⟨ρ, (by simp only [put]; rfl), fun _ _ => rfl, hW.pure rfl rfl (by omega)⟩
        · refine wpOp_go (E := True) rfl rfl (fun K' hK => ?_)
          go_simp
          refine hK.out _ _ ⟨ρ, (by simp only [put]; rfl), fun _ _ => rfl, hW.pure rfl rfl (by omega)⟩
        · refine wpOp_go (E := True) rfl rfl (fun K' hK => ?_)
          go_simp
          refine hK.out _ _ ⟨ρ, (by simp only [put]; rfl), fun _ _ => rfl, hW.pure rfl rfl (by omega)⟩
        · refine wpOp_go (E := True) rfl rfl (fun K' hK => ?_)
          go_simp
          refine hK.out _ _ ⟨ρ, (by simp only [put]; rfl), fun _ _ => rfl, hW.pure rfl rfl (by omega)⟩
        · have e4 : u 4 = .slice Al lb.length cl := hu 4 (all_of hp (by kernel_rfl))
          refine wpOp_go (E := True) rfl rfl (fun K' hK => ?_)
          go_simp
          refine hK.out _ _ ⟨ρ, (by simp only [put, e4]; rfl), fun _ _ => rfl, hW.pure rfl rfl (by omega)⟩
        · have e3 : u 3 = .pointer (some ⟨p, 0, none⟩) := hu 3 (all_of hp (by kernel_rfl))
          have e5 : u 5 = .int .i64 (lb.length : Int) := hu 5 (all_of hp (by kernel_rfl))
          have nk8 : L 8 = false := no_later hc hl (by kernel_rfl)
          have nks : L 9 = false := no_later hc nk8 (by kernel_rfl)
          refine wpOp_go (E := True) rfl rfl (fun K' hK => ?_)
          go_simp
          go_at_call 50
          refine (spec_l02DrawIndex _ _ _ (hW.sr nks) (by omega)).mono ?_
          rintro e' w5 ⟨r, rfl, -, -, hs5, hk5⟩
          refine hK.out _ _ ⟨ρ.drawn 6 r, (by simp only [put, e3, e5]; rfl), fun j hj => by
              have n12 : L 12 = false := no_later hc hl (by kernel_rfl)
              match j, hj with
              | 0, _ => rfl
              | 1, _ => rfl
              | 2, _ => rfl
              | 3, _ => rfl
              | 4, _ => rfl
              | 5, _ => rfl
              | 6, hj => rw [hl] at hj; cases hj
              | 7, _ => rfl
              | 8, _ => rfl
              | 9, _ => rfl
              | 10, _ => rfl
              | 11, _ => rfl
              | 12, hj => rw [n12] at hj; cases hj
              | 13, _ => rfl
              | _ + 14, _ => rfl, hW.call rfl (by omega) nks (by omega) hk5 hs5 (fun h1 => h1.keep hk5 (by omega)) (by intro n hn; simp at hn)⟩
        · refine wpOp_go (E := True) rfl rfl (fun K' hK => ?_)
          go_simp
          refine hK.out _ _ ⟨ρ, (by simp only [put]; rfl), fun _ _ => rfl, hW.pure rfl rfl (by omega)⟩
        · have e7 : u 7 = .pointer (some ⟨p, 0, none⟩) := hu 7 (all_of hp (by kernel_rfl))
          have nks : L 9 = false := no_later hc hl (by kernel_rfl)
          refine wpOp_go (E := True) rfl rfl (fun K' hK => ?_)
          go_simp
          go_at_call 51
          refine (spec_l20DrawHour _ _ (hW.sr nks)).mono ?_
          rintro e' w5 ⟨r, rfl, hs5, hk5⟩
          refine hK.out _ _ ⟨ρ.drawn 8 r, (by simp only [put, e7]; rfl), fun j hj => by
              have n13 : L 13 = false := no_later hc hl (by kernel_rfl)
              match j, hj with
              | 0, _ => rfl
              | 1, _ => rfl
              | 2, _ => rfl
              | 3, _ => rfl
              | 4, _ => rfl
              | 5, _ => rfl
              | 6, _ => rfl
              | 7, _ => rfl
              | 8, hj => rw [hl] at hj; cases hj
              | 9, _ => rfl
              | 10, _ => rfl
              | 11, _ => rfl
              | 12, _ => rfl
              | 13, hj => rw [n13] at hj; cases hj
              | _ + 14, _ => rfl, hW.call rfl (by omega) nks (by omega) hk5 hs5 (fun h1 => h1.keep hk5 (by omega)) (by intro n hn; simp at hn)⟩
        · have e0 : u 0 = .agg #[.slice A N.nodes.length c, .slice Bq N.pipes.length d] := hu 0 (all_of hp (by kernel_rfl))
          have hb0 := hW.t0 hl
          have hyX := hb0.lt
          have xx0 := hb0.cell 0 rfl
          have xx1 := hb0.cell 1 rfl
          have xf0 := hb0.frozen 0 rfl
          have xf1 := hb0.frozen 1 rfl
          clear hb0
          refine wpOp_go (E := True) rfl rfl (fun K' hK => ?_)
          go_simp
          refine hK.out _ _ ⟨ρ, (by simp only [put, e0]; rfl), fun _ _ => rfl, hW.store rfl rfl (by intro k q; omega) ((((Keep.refl (· = w.heap.size) _).one _).one _).wide fun k q => Or.inr q) ⟨(hW.sr hl).high (B := p + 1) (by (repeat' (first | (with_reducible exact Below.refl _ _) | (with_reducible assumption) | (with_reducible refine Below.alloc ?_ ?_ _) | (with_reducible refine Below.drew ?_) | (with_reducible refine Below.drewN' ?_ _) | (with_reducible refine Below.setCell ?_ ?_ _) | (refine Below.via ?_ (by with_reducible assumption) ?_) | (with_reducible refine Below.via ?_ (Wd.h _) ?_) | go_size))) (by omega), bx2 (by simp; omega) (by simp [go_sem, xx0, xx1]) (by simp [go_sem, xf0]) (by simp [go_sem, xx0, xx1]) (by simp [go_sem, xf1])⟩⟩
        · have e1 : u 1 = .slice Al lb.length cl := hu 1 (all_of hp (by kernel_rfl))
          refine wpOp_go (E := True) rfl rfl (fun K' hK => ?_)
          go_simp
          refine hK.out _ _ ⟨ρ, (by simp only [put, e1]; rfl), fun _ _ => rfl, hW.pure rfl rfl (by omega)⟩
        · have e2 : u 2 = .slice An ln.length cn := hu 2 (all_of hp (by kernel_rfl))
          refine wpOp_go (E := True) rfl rfl (fun K' hK => ?_)
          go_simp
          refine hK.out _ _ ⟨ρ, (by simp only [put, e2]; rfl), fun _ _ => rfl, hW.pure rfl rfl (by omega)⟩
        · have e6 : u 6 = .int .i64 (ρ.r 6) := hu 6 (all_of hp (by kernel_rfl))
          refine wpOp_go (E := True) rfl rfl (fun K' hK => ?_)
          go_simp
          refine hK.out _ _ ⟨ρ, (by simp only [put, e6]; rfl), fun _ _ => rfl, hW.pure rfl rfl (by omega)⟩
        · have e8 : u 8 = .int .i64 (ρ.r 8) := hu 8 (all_of hp (by kernel_rfl))
          refine wpOp_go (E := True) rfl rfl (fun K' hK => ?_)
          go_simp
          refine hK.out _ _ ⟨ρ, (by simp only [put, e8]; rfl), fun _ _ => rfl, hW.pure rfl rfl (by omega)⟩
      · intro L ρ u wx hall hu hW
        obtain ⟨hsv, hb0⟩ := hW.t1 (hall 9 (by show 9 < 14; omega))
        have cw0_0 := hb0.cell 0 rfl
        have cw0_1 := hb0.cell 1 rfl
        have eR0 : u 10 = .slice Al lb.length cl := hu 10 (by show 10 < 14; omega)
        have eR1 : u 11 = .slice An ln.length cn := hu 11 (by show 11 < 14; omega)
        have eR2 : u 12 = .int .i64 (ρ.r 6) := hu 12 (by show 12 < 14; omega)
        have eR3 : u 13 = .int .i64 (ρ.r 8) := hu 13 (by show 13 < 14; omega)
        have hkp := hW.kp
        clear hu hall hW hb0
        go_wp2
        refine bodyPost_ret (by simp [results, Try.results31, go_sem, cw0_0, cw0_1]; try rfl) rfl ?_
        have := dy_post (cl := cl) (cn := cn) (vs := fun us => ∃ x y : Int, us = [.int .i64 x, .int .i64 y]) [.int .i64 (ρ.r 6), .int .i64 (ρ.r 8)] ⟨_, _, rfl⟩ H3.out hp hkp hsv hnc hl33 HOK.out hn201 HNK.out
        simpa [netV, eR0, eR1, eR2, eR3] using this
set_option maxRecDepth 100000 in
set_option maxHeartbeats 8000000 in
theorem spec_DrawAmountsIn (A0 : Option Addr) (c0 : Nat) (l0 : List Int) (w : World) (h : BytesIn w A0 l0) (hl : l0.length ≤ 4096) :
    Calls Try.prog 15 #[.slice A0 l0.length c0] w fun e w' => ∃ (A Bq Al An : Option Addr) (c d cl cn : Nat) (N : Net) (lb : List Ctr) (ln : List Nom) (hr : Int), e = .returned (.tuple #[netV A Bq N.nodes.length c N.pipes.length d, .slice Al lb.length cl, .slice An ln.length cn, .int .i64 hr]) ∧ N.nodes.length ≤ c ∧ NetAt w' A Bq N ∧ Rd w' Al (lb.flatMap Ctr.cells) ∧ Rd w' An (ln.flatMap Nom.cells) ∧ lb.length ≤ 33 ∧ CtSm lb ∧ ln.length ≤ 201 ∧ NmSm ln ∧ Below w.heap.size w w' ∧ (∀ b off, A = some ⟨b, off, none⟩ → w.heap.size < b) ∧ (∀ b off, Bq = some ⟨b, off, none⟩ → w.heap.size < b) ∧ (∀ b off, Al = some ⟨b, off, none⟩ → w.heap.size < b) ∧ (∀ b off, An = some ⟨b, off, none⟩ → w.heap.size < b) := by
  have HI := Lib.hid h
  clear h
  go_enter Try.func15, Try.ntmps15
  go_wp2_with fail
  refine (spec_l01From A0 c0 l0 _ (HI.out.below (by (repeat' (first | (with_reducible exact Below.refl _ _) | (with_reducible assumption) | (with_reducible refine Below.alloc ?_ ?_ _) | (with_reducible refine Below.drew ?_) | (with_reducible refine Below.drewN' ?_ _) | (with_reducible refine Below.setCell ?_ ?_ _) | (refine Below.via ?_ (by with_reducible assumption) ?_) | (with_reducible refine Below.via ?_ (Wd.h _) ?_) | go_size)))) hl).mono ?_
  rintro e w1 ⟨rfl, hs1, hb1⟩
  have hs1 : Src w1 (w.heap.size + 1) := by simpa using hs1
  have HS1 := Lib.hid hs1
  have hp1 := hs1.lt
  clear hs1
  (obtain ⟨hcn, hfn⟩ := bcell hb1; have hz1 := hb1.size; (try simp at hz1); have Ncw0_0 := hcn (w.heap.size) (0) (by first | omega | (simp; done) | (simp; omega)); have Nfw0_0 := hfn (w.heap.size) (0) (by first | omega | (simp; done) | (simp; omega)); have Nhy0 : w.heap.size < w1.heap.size := (by omega); have Ncw0_1 := hcn (w.heap.size) (1) (by first | omega | (simp; done) | (simp; omega)); have Nfw0_1 := hfn (w.heap.size) (1) (by first | omega | (simp; done) | (simp; omega)); simp [go_sem] at Ncw0_0 Nfw0_0 Ncw0_1 Nfw0_1; clear hcn hfn; have cw0_0 := Ncw0_0; have fw0_0 := Nfw0_0; have cw0_1 := Ncw0_1; have fw0_1 := Nfw0_1; have hy0 := Nhy0; clear Ncw0_0 Nfw0_0 Ncw0_1 Nfw0_1 Nhy0)
  go_wp2_with fail
  refine (spec_l21DrawAsk (w.heap.size + 1) _ (HS1.out.below (by (repeat' (first | (with_reducible exact Below.refl _ _) | (with_reducible assumption) | (with_reducible refine Below.alloc ?_ ?_ _) | (with_reducible refine Below.drew ?_) | (with_reducible refine Below.drewN' ?_ _) | (with_reducible refine Below.setCell ?_ ?_ _) | (refine Below.via ?_ (by with_reducible assumption) ?_) | (with_reducible refine Below.via ?_ (Wd.h _) ?_) | go_size))))).mono ?_
  rintro e w2 ⟨A, Bq, Al, An, c, d, cl, cn, N, lb, ln, us, rfl, ⟨con, hr, rfl⟩, hnc, hN, hL, hM, hl33, hok, hn201, hnk, hs2, hk2, hA, hB, hAl, hAn⟩
  have HB2 := Lib.hid (show Below w.heap.size w w2 from hk2.below (by (repeat' (first | (with_reducible exact Below.refl _ _) | (with_reducible assumption) | (with_reducible refine Below.alloc ?_ ?_ _) | (with_reducible refine Below.drew ?_) | (with_reducible refine Below.drewN' ?_ _) | (with_reducible refine Below.setCell ?_ ?_ _) | (refine Below.via ?_ (by with_reducible assumption) ?_) | (with_reducible refine Below.via ?_ (Wd.h _) ?_) | go_size))) (by go_size) (by intro k hq; (try simp only at hq); omega))
  (have hz2 := hk2.size; (try simp at hz2); have Ncw0_0 := hk2.cell (w.heap.size) (0) (by first | omega | (simp; done) | (simp; omega)) (by intro hq; (try simp only at hq); omega); have Nfw0_0 := hk2.frozen (w.heap.size) (0) (by first | omega | (simp; done) | (simp; omega)) (by intro hq; (try simp only at hq); omega); have Nhy0 : w.heap.size < w2.heap.size := (by omega); have Ncw0_1 := hk2.cell (w.heap.size) (1) (by first | omega | (simp; done) | (simp; omega)) (by intro hq; (try simp only at hq); omega); have Nfw0_1 := hk2.frozen (w.heap.size) (1) (by first | omega | (simp; done) | (simp; omega)) (by intro hq; (try simp only at hq); omega); simp [go_sem, cw0_0, fw0_0, cw0_1, fw0_1, hy0] at Ncw0_0 Nfw0_0 Ncw0_1 Nfw0_1; clear cw0_0 fw0_0 cw0_1 fw0_1 hy0; have cw0_0 := Ncw0_0; have fw0_0 := Nfw0_0; have cw0_1 := Ncw0_1; have fw0_1 := Nfw0_1; have hy0 := Nhy0; clear Ncw0_0 Nfw0_0 Ncw0_1 Nfw0_1 Nhy0)
  have HN := Lib.hid hN
  have HL := Lib.hid hL
  have HM := Lib.hid hM
  have HA := Lib.hid (show ∀ b off, A = some ⟨b, off, none⟩ → w.heap.size < b from fun b off e => by have := hA b off e; (try simp at this); omega)
  have HB := Lib.hid (show ∀ b off, Bq = some ⟨b, off, none⟩ → w.heap.size < b from fun b off e => by have := hB b off e; (try simp at this); omega)
  have HAl := Lib.hid (show ∀ b off, Al = some ⟨b, off, none⟩ → w.heap.size < b from fun b off e => by have := hAl b off e; (try simp at this); omega)
  have HAn := Lib.hid (show ∀ b off, An = some ⟨b, off, none⟩ → w.heap.size < b from fun b off e => by have := hAn b off e; (try simp at this); omega)
  clear hN hL hM hA hB hAl hAn
  go_wp2_with fail
  refine bodyPost_ret (by simp [results, Try.results15, go_sem, hy0, cw0_0, cw0_1]; try rfl) rfl ?_
  have hkp : Keep (· = w.heap.size) w2 _ := (((Keep.refl (· = w.heap.size) w2).setCell (p := ⟨w.heap.size, 0, none⟩) rfl (.slice A N.nodes.length c)).setCell (p := ⟨w.heap.size, 1, none⟩) rfl (.slice Bq N.pipes.length d)).alloc (.cells #[.slice A N.nodes.length c, .slice Bq N.pipes.length d] 27)
  refine ⟨A, Bq, Al, An, c, d, cl, cn, N, lb, ln, hr, by simp [netV], hnc, HN.out.keepC hkp (fun b off e q => by have := HA.out b off e; omega) (fun b off e q => by have := HB.out b off e; omega), HL.out.keep hkp (fun b off e q => by have := HAl.out b off e; omega), HM.out.keep hkp (fun b off e q => by have := HAn.out b off e; omega), hl33, hok, hn201, hnk, hkp.below HB2.out (by omega) (by intro k q; omega), HA.out, HB.out, HAl.out, HAn.out⟩
set_option maxRecDepth 100000 in
set_option maxHeartbeats 8000000 in
theorem spec_DrawNominatedSupplies (A0 : Option Addr) (c0 : Nat) (l0 : List Int) (w : World) (h : BytesIn w A0 l0) (hl : l0.length ≤ 4096) :
    Calls Try.prog 5 #[.slice A0 l0.length c0] w fun e w' => ∃ (A Bq Al An : Option Addr) (c d cl cn : Nat) (N : Net) (lb : List Ctr) (ln : List Nom) (hr : Int), e = .returned (.tuple #[netV A Bq N.nodes.length c N.pipes.length d, .slice Al lb.length cl, .slice An ln.length cn, .int .i64 hr]) ∧ N.nodes.length ≤ c ∧ NetAt w' A Bq N ∧ Rd w' Al (lb.flatMap Ctr.cells) ∧ Rd w' An (ln.flatMap Nom.cells) ∧ lb.length ≤ 33 ∧ CtSm lb ∧ ln.length ≤ 201 ∧ NmSm ln ∧ Below w.heap.size w w' ∧ (∀ b off, A = some ⟨b, off, none⟩ → w.heap.size < b) ∧ (∀ b off, Bq = some ⟨b, off, none⟩ → w.heap.size < b) ∧ (∀ b off, Al = some ⟨b, off, none⟩ → w.heap.size < b) ∧ (∀ b off, An = some ⟨b, off, none⟩ → w.heap.size < b) := by
  have HI := Lib.hid h
  clear h
  go_enter Try.func5, Try.ntmps5
  go_wp2_with fail
  refine (spec_DrawAmountsIn A0 c0 l0 _ (HI.out.below (by (repeat' (first | (with_reducible exact Below.refl _ _) | (with_reducible assumption) | (with_reducible refine Below.alloc ?_ ?_ _) | (with_reducible refine Below.drew ?_) | (with_reducible refine Below.drewN' ?_ _) | (with_reducible refine Below.setCell ?_ ?_ _) | (refine Below.via ?_ (by with_reducible assumption) ?_) | (with_reducible refine Below.via ?_ (Wd.h _) ?_) | go_size)))) (by omega)).mono ?_
  rintro e w2 ⟨A, Bq, Al, An, c, d, cl, cn, N, lb, ln, hr, rfl, hnc, hN, hL, hM, hl33, hok, hn201, hnk, hb2, hA, hB, hAl, hAn⟩
  have hz2 := hb2.size
  have HB2 := Lib.hid (show Below w.heap.size w w2 by (repeat' (first | (with_reducible exact Below.refl _ _) | (with_reducible assumption) | (with_reducible refine Below.alloc ?_ ?_ _) | (with_reducible refine Below.drew ?_) | (with_reducible refine Below.drewN' ?_ _) | (with_reducible refine Below.setCell ?_ ?_ _) | (refine Below.via ?_ (by with_reducible assumption) ?_) | (with_reducible refine Below.via ?_ (Wd.h _) ?_) | go_size)))
  (obtain ⟨hcn, hfn⟩ := bcell hb2; have hz2 := hb2.size; (try simp at hz2); have Ncw0_0 := hcn (w.heap.size) (0) (by first | omega | (simp; done) | (simp; omega)); have Nfw0_0 := hfn (w.heap.size) (0) (by first | omega | (simp; done) | (simp; omega)); have Nhy0 : w.heap.size < w2.heap.size := (by omega); have Ncw0_1 := hcn (w.heap.size) (1) (by first | omega | (simp; done) | (simp; omega)); have Nfw0_1 := hfn (w.heap.size) (1) (by first | omega | (simp; done) | (simp; omega)); simp [go_sem] at Ncw0_0 Nfw0_0 Ncw0_1 Nfw0_1; clear hcn hfn; have cw0_0 := Ncw0_0; have fw0_0 := Nfw0_0; have cw0_1 := Ncw0_1; have fw0_1 := Nfw0_1; have hy0 := Nhy0; clear Ncw0_0 Nfw0_0 Ncw0_1 Nfw0_1 Nhy0)
  have HN := Lib.hid hN
  have HL := Lib.hid hL
  have HM := Lib.hid hM
  have HA := Lib.hid (show ∀ b off, A = some ⟨b, off, none⟩ → w.heap.size < b from fun b off e => by have := hA b off e; (try simp at this); omega)
  have HB := Lib.hid (show ∀ b off, Bq = some ⟨b, off, none⟩ → w.heap.size < b from fun b off e => by have := hB b off e; (try simp at this); omega)
  have HAl := Lib.hid (show ∀ b off, Al = some ⟨b, off, none⟩ → w.heap.size < b from fun b off e => by have := hAl b off e; (try simp at this); omega)
  have HAn := Lib.hid (show ∀ b off, An = some ⟨b, off, none⟩ → w.heap.size < b from fun b off e => by have := hAn b off e; (try simp at this); omega)
  clear hN hL hM hA hB hAl hAn
  go_wp2_with fail
  refine bodyPost_ret (by simp [results, Try.results5, go_sem, hy0, cw0_0, cw0_1]; try rfl) rfl ?_
  have hkp : Keep (· = w.heap.size) w2 _ := ((Keep.refl (· = w.heap.size) w2).setCell (p := ⟨w.heap.size, 0, none⟩) rfl (.slice A N.nodes.length c)).setCell (p := ⟨w.heap.size, 1, none⟩) rfl (.slice Bq N.pipes.length d)
  refine ⟨A, Bq, Al, An, c, d, cl, cn, N, lb, ln, hr, by simp [netV], hnc, HN.out.keepC hkp (fun b off e q => by have := HA.out b off e; omega) (fun b off e q => by have := HB.out b off e; omega), HL.out.keep hkp (fun b off e q => by have := HAl.out b off e; omega), HM.out.keep hkp (fun b off e q => by have := HAn.out b off e; omega), hl33, hok, hn201, hnk, hkp.below HB2.out (by omega) (by intro k q; omega), HA.out, HB.out, HAl.out, HAn.out⟩
end Go.Proofs.Ytlbidcblpmdgaaa
