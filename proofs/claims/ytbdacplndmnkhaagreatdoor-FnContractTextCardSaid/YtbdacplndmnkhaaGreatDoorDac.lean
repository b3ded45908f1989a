/- The draws of a book's laws. -/
import Derived.Test.YtbdacplndmnkhaaGreatDoorDcb
namespace Go.Proofs.YtbdacplndmnkhaaGreatDoor
set_option linter.unusedVariables false
set_option linter.unusedSimpArgs false
open Go.RowKit
set_option maxRecDepth 100000 in
set_option maxHeartbeats 8000000 in
theorem spec_l20DrawHour (p : Nat) (w : World) (h : Src w p) :
    Calls Tryz.prog 28 #[.pointer (some ⟨p, 0, none⟩)] w fun e w' => ∃ x : Int, e = .returned (.int .i64 x) ∧ Src w' p ∧ Keep (· = p) w w' := by
  have hp := h.lt
  have HS := Lib.hid h
  clear h
  go_enter Tryz.func28, Tryz.ntmps28
  go_wp2_with fail
  refine (spec_l01Next p _ _ HS.out (by omega)).mono ?_
  rintro e w1 ⟨z, rfl, za, _, zb, hs1, hk1⟩
  have HS1 := Lib.hid hs1
  have HK1 := Lib.hid hk1
  have hz1 := hk1.size
  clear hs1 hk1 zb HS
  by_cases e0 : z = 0
  · subst e0
    go_wp2_with fail
    refine (spec_l01Next p _ _ (HS1.out.below (by (repeat' (first | (with_reducible exact Below.refl _ _) | (with_reducible assumption) | (with_reducible refine Below.alloc ?_ ?_ _) | (with_reducible refine Below.drew ?_) | (with_reducible refine Below.drewN' ?_ _) | (with_reducible refine Below.setCell ?_ ?_ _) | (refine Below.via ?_ (by with_reducible assumption) ?_) | (with_reducible refine Below.via ?_ (Wd.h _) ?_) | go_size)))) (by omega)).mono ?_
    rintro e w4 ⟨r, rfl, ra, _, rb, hs4, hk4⟩
    have rc := rb (by omega)
    have rn : r.toNat < 3 := by omega
    have hld := (hk4.cell w1.heap.size r.toNat (by simp) (by omega)).trans (litC3 w1 2 (-1) 47 48 r.toNat rn)
    have hz4 := hk4.size
    simp at hz4
    have HS4 := Lib.hid hs4
    have HK4 := Lib.hid ((HK1.out.trans (Keep.of_below _ (Below.alloc (Below.refl _ w1) (Nat.le_refl _) _))).trans hk4)
    clear hs4 hk4 rb HS1 HK1
    go_wp2
    go_ret
    exact ⟨_, rfl, HS4.out, HK4.out⟩
  · have b0 : (z == 0) = false := by simpa using e0
    go_wp2_with fail
    refine (spec_l01Next p _ _ HS1.out (by omega)).mono ?_
    rintro e w4 ⟨r, rfl, ra, _, rb, hs4, hk4⟩
    have HS4 := Lib.hid hs4
    have HK4 := Lib.hid (HK1.out.trans hk4)
    clear hs4 hk4 rb HS1 HK1
    go_wp2
    go_ret
    exact ⟨_, rfl, HS4.out, HK4.out⟩
set_option maxRecDepth 100000 in
set_option maxHeartbeats 8000000 in
theorem spec_DrawActiveContracts (A0 : Option Addr) (c0 : Nat) (l0 : List Int) (w : World) (h : BytesIn w A0 l0) (hl : l0.length ≤ 4096) :
    Calls Tryz.prog 10 #[.slice A0 l0.length c0] w fun e w' => ∃ (A Bq Al : Option Addr) (c d cl : Nat) (N : Net) (l : List Ctr) (x : Int) (hr : Int), e = .returned (.tuple #[netV A Bq N.nodes.length c N.pipes.length d, .slice Al l.length cl, .int .i64 x, .int .i64 hr]) ∧ N.nodes.length ≤ c ∧ NetAt w' A Bq N ∧ Rd w' Al (l.flatMap Ctr.cells) ∧ l.length ≤ 33 ∧ CtSm l ∧ Below w.heap.size w w' ∧ (∀ b off, A = some ⟨b, off, none⟩ → w.heap.size < b) ∧ (∀ b off, Bq = some ⟨b, off, none⟩ → w.heap.size < b) ∧ (∀ b off, Al = some ⟨b, off, none⟩ → w.heap.size < b) := by
  have HI := Lib.hid h
  clear h
  go_enter Tryz.func10, Tryz.ntmps10
  go_wp2_with fail
  refine (spec_l01From A0 c0 l0 _ (HI.out.below (by (repeat' (first | (with_reducible exact Below.refl _ _) | (with_reducible assumption) | (with_reducible refine Below.alloc ?_ ?_ _) | (with_reducible refine Below.drew ?_) | (with_reducible refine Below.drewN' ?_ _) | (with_reducible refine Below.setCell ?_ ?_ _) | (refine Below.via ?_ (by with_reducible assumption) ?_) | (with_reducible refine Below.via ?_ (Wd.h _) ?_) | go_size)))) hl).mono ?_
  rintro e w1 ⟨rfl, hs1, hb1⟩
  have hs1 : Src w1 (w.heap.size + 1) := by simpa using hs1
  have HS1 := Lib.hid hs1
  have hp1 := hs1.lt
  clear hs1
  (obtain ⟨hcn, hfn⟩ := bcell hb1; have hz1 := hb1.size; (try simp at hz1); have Ncw0_0 := hcn (w.heap.size) (0) (by first | omega | (simp; done) | (simp; omega)); have Nfw0_0 := hfn (w.heap.size) (0) (by first | omega | (simp; done) | (simp; omega)); have Nhy0 : w.heap.size < w1.heap.size := (by omega); have Ncw0_1 := hcn (w.heap.size) (1) (by first | omega | (simp; done) | (simp; omega)); have Nfw0_1 := hfn (w.heap.size) (1) (by first | omega | (simp; done) | (simp; omega)); simp [go_sem] at Ncw0_0 Nfw0_0 Ncw0_1 Nfw0_1; clear hcn hfn; have cw0_0 := Ncw0_0; have fw0_0 := Nfw0_0; have cw0_1 := Ncw0_1; have fw0_1 := Nfw0_1; have hy0 := Nhy0; clear Ncw0_0 Nfw0_0 Ncw0_1 Nfw0_1 Nhy0)
  go_wp2_with fail
  refine (spec_l20Draw (w.heap.size + 1) _ (HS1.out.below (by (repeat' (first | (with_reducible exact Below.refl _ _) | (with_reducible assumption) | (with_reducible refine Below.alloc ?_ ?_ _) | (with_reducible refine Below.drew ?_) | (with_reducible refine Below.drewN' ?_ _) | (with_reducible refine Below.setCell ?_ ?_ _) | (refine Below.via ?_ (by with_reducible assumption) ?_) | (with_reducible refine Below.via ?_ (Wd.h _) ?_) | go_size))))).mono ?_
  rintro e w2 ⟨A, Bq, Al, c, d, cl, n2, N, xs, rfl, ⟨l, rfl, rfl, hok, hl33⟩, hnc, hN, hL, hl8, hs2, hk2, hA, hB, hAl, -, -, -⟩
  have HOK := Lib.hid hok
  have HN := Lib.hid hN
  have HL := Lib.hid hL
  have HS2 := Lib.hid hs2
  have HB2 := Lib.hid (show Below w.heap.size w w2 from hk2.below (by (repeat' (first | (with_reducible exact Below.refl _ _) | (with_reducible assumption) | (with_reducible refine Below.alloc ?_ ?_ _) | (with_reducible refine Below.drew ?_) | (with_reducible refine Below.drewN' ?_ _) | (with_reducible refine Below.setCell ?_ ?_ _) | (refine Below.via ?_ (by with_reducible assumption) ?_) | (with_reducible refine Below.via ?_ (Wd.h _) ?_) | go_size))) (by go_size) (by intro k hq; (try simp only at hq); omega))
  (have hz2 := hk2.size; (try simp at hz2); have Ncw0_0 := hk2.cell (w.heap.size) (0) (by first | omega | (simp; done) | (simp; omega)) (by intro hq; (try simp only at hq); omega); have Nfw0_0 := hk2.frozen (w.heap.size) (0) (by first | omega | (simp; done) | (simp; omega)) (by intro hq; (try simp only at hq); omega); have Nhy0 : w.heap.size < w2.heap.size := (by omega); have Ncw0_1 := hk2.cell (w.heap.size) (1) (by first | omega | (simp; done) | (simp; omega)) (by intro hq; (try simp only at hq); omega); have Nfw0_1 := hk2.frozen (w.heap.size) (1) (by first | omega | (simp; done) | (simp; omega)) (by intro hq; (try simp only at hq); omega); simp [go_sem, cw0_0, fw0_0, cw0_1, fw0_1, hy0] at Ncw0_0 Nfw0_0 Ncw0_1 Nfw0_1; clear cw0_0 fw0_0 cw0_1 fw0_1 hy0; have cw0_0 := Ncw0_0; have fw0_0 := Nfw0_0; have cw0_1 := Ncw0_1; have fw0_1 := Nfw0_1; have hy0 := Nhy0; clear Ncw0_0 Nfw0_0 Ncw0_1 Nfw0_1 Nhy0)
  have HX0 := Lib.hid (show Bx w2 w.heap.size [.slice none 0 0, .slice none 0 0] from bx2 hy0 cw0_0 fw0_0 cw0_1 fw0_1)
  have HA := Lib.hid (show ∀ b off, A = some ⟨b, off, none⟩ → w.heap.size + 1 < b from fun b off e => by have := hA b off e; omega)
  have HB := Lib.hid (show ∀ b off, Bq = some ⟨b, off, none⟩ → w.heap.size + 1 < b from fun b off e => by have := hB b off e; omega)
  have HAl := Lib.hid (show ∀ b off, Al = some ⟨b, off, none⟩ → w.heap.size + 1 < b from fun b off e => by have := hAl b off e; omega)
  clear hN hL hs2 hk2 hb1 hy0 cw0_0 fw0_0 cw0_1 fw0_1 hA hB hAl hok
  go_upto_region 3 with (fail)
  generalize hW : World.alloc w2 _ = w3
  have hb3 : Below w2.heap.size w2 w3 := by rw [← hW]; (repeat' (first | (with_reducible exact Below.refl _ _) | (with_reducible assumption) | (with_reducible refine Below.alloc ?_ ?_ _) | (with_reducible refine Below.drew ?_) | (with_reducible refine Below.drewN' ?_ _) | (with_reducible refine Below.setCell ?_ ?_ _) | (refine Below.via ?_ (by with_reducible assumption) ?_) | (with_reducible refine Below.via ?_ (Wd.h _) ?_) | go_size))
  have HX1 := Lib.hid (show Bx w3 w2.heap.size [.slice A N.nodes.length c, .slice Bq N.pipes.length d] by rw [← hW]; exact bx2 (by simp) (by simp) (by simp) (by simp) (by simp))
  have HX0 := Lib.hid (HX0.out.below hb3 HX0.out.lt)
  have HS3 := Lib.hid (HS2.out.below hb3)
  have HB3 := Lib.hid (HB2.out.trans (hb3.mono (by omega)))
  have HN3 := Lib.hid (HN.out.below hb3)
  have HL3 := Lib.hid (HL.out.below hb3)
  have hz3 := hb3.size
  have hlX := HX1.out.lt
  clear hW hb3 HN HL HS2 HB2
  go_wp2_with fail
  refine (spec_l01Next (w.heap.size + 1) _ _ HS3.out (by omega)).mono ?_
  rintro e w4 ⟨sh, rfl, sha, _, shb, hs4, hk4⟩
  have HX1 := Lib.hid (HX1.out.keep hk4 (by omega))
  have HX0 := Lib.hid (HX0.out.keep hk4 (by omega))
  have HB4 := Lib.hid (show Below w.heap.size w w4 from hk4.below HB3.out (by omega) (by intro k hq; (try simp only at hq); omega))
  have HN4 := Lib.hid (HN3.out.keepC hk4 (fun b off e q => by have := HA.out b off e; omega) (fun b off e q => by have := HB.out b off e; omega))
  have HL4 := Lib.hid (HL3.out.keep hk4 (fun b off e q => by have := HAl.out b off e; omega))
  have HS4 := Lib.hid hs4
  have hz4 := hk4.size
  clear hs4 hk4 shb HN3 HL3 HS3 HB3
  go_wp2_with fail
  refine (spec_l01Next (w.heap.size + 1) _ _ HS4.out (by omega)).mono ?_
  rintro e w5 ⟨z, rfl, za, _, zb, hs4, hk4⟩
  have HX1 := Lib.hid (HX1.out.keep hk4 (by omega))
  have HX0 := Lib.hid (HX0.out.keep hk4 (by omega))
  have HB5 := Lib.hid (show Below w.heap.size w w5 from hk4.below HB4.out (by omega) (by intro k hq; (try simp only at hq); omega))
  have HN5 := Lib.hid (HN4.out.keepC hk4 (fun b off e q => by have := HA.out b off e; omega) (fun b off e q => by have := HB.out b off e; omega))
  have HL5 := Lib.hid (HL4.out.keep hk4 (fun b off e q => by have := HAl.out b off e; omega))
  have HS5 := Lib.hid hs4
  have hz5 := hk4.size
  clear hs4 hk4 zb HN4 HL4 HS4 HB4
  by_cases e0 : z = 0
  · subst e0
    go_wp2_with fail
    refine (spec_l01Next (w.heap.size + 1) _ _ (HS5.out.below (by (repeat' (first | (with_reducible exact Below.refl _ _) | (with_reducible assumption) | (with_reducible refine Below.alloc ?_ ?_ _) | (with_reducible refine Below.drew ?_) | (with_reducible refine Below.drewN' ?_ _) | (with_reducible refine Below.setCell ?_ ?_ _) | (refine Below.via ?_ (by with_reducible assumption) ?_) | (with_reducible refine Below.via ?_ (Wd.h _) ?_) | go_size)))) (by omega)).mono ?_
    rintro e w7 ⟨r, rfl, ra, _, rb, hs4, hk4⟩
    have rc := rb (by omega)
    have rn : r.toNat < 2 := by omega
    have hld := (hk4.cell w5.heap.size r.toNat (by simp) (by omega)).trans (litC2 w5 2 (-1) 16 r.toNat rn)
    have hb5 : Below w5.heap.size w5 (w5.alloc (.cells #[Value.int .i64 (-1), Value.int .i64 16] 2)) := Below.alloc (Below.refl _ w5) (Nat.le_refl _) _
    have hzk := hk4.size
    simp at hzk
    have HX1 := Lib.hid ((HX1.out.below hb5 HX1.out.lt).keep hk4 (by omega))
    have HX0 := Lib.hid ((HX0.out.below hb5 HX0.out.lt).keep hk4 (by omega))
    have HB7 := Lib.hid (show Below w.heap.size w w7 from hk4.below (HB5.out.trans (hb5.mono (by omega))) (by simp; omega) (by intro k hq; (try simp only at hq); omega))
    have HN7 := Lib.hid ((HN5.out.below hb5).keepC hk4 (fun b off e q => by have := HA.out b off e; omega) (fun b off e q => by have := HB.out b off e; omega))
    have HL7 := Lib.hid ((HL5.out.below hb5).keep hk4 (fun b off e q => by have := HAl.out b off e; omega))
    have HS7 := Lib.hid hs4
    clear hs4 hk4 rb HN5 HL5 HS5 HB5 hb5
    go_upto_region 6 with (fail)
    clear hld
    generalize pick [-1, 16] r.toNat = xq at *
    go_wp2_with fail
    refine wp_region_tb (R := Zr) [some 27, some 28, some 29, some 30, some 31, none, some 3, some 4, some 5] _ (by intro u; simp only [frs, Act.put, List.setIfInBounds_toArray, List.set_cons_zero, List.set_cons_succ, Nat.reduceAdd]; exact rfl) (fun ρ j => ([.agg #[.slice A N.nodes.length c, .slice Bq N.pipes.length d], .slice Al l.length cl, .int .i64 (xq), .pointer (some ⟨w.heap.size + 1, 0, none⟩), .int .i64 (ρ.r 4), undef, .slice Al l.length cl, .int .i64 (xq), .int .i64 (ρ.r 4)] : List Value).getD j undef) (WZ (w.heap.size + 1) (fun k => k = w.heap.size) [] [] 5 (fun wt => Bx wt w.heap.size [.slice none 0 0, .slice none 0 0] ∧ Bx wt w2.heap.size [.slice A N.nodes.length c, .slice Bq N.pipes.length d]) (fun _ wt => Bx wt w.heap.size [.slice A N.nodes.length c, .slice Bq N.pipes.length d]) w7) (by kernel_rfl) (by kernel_rfl) Zr.zero (WZ.start (Keep.of_below _ (Below.drew (Below.refl _ _))) (HS7.out.below (Below.drew (Below.refl _ _))) ⟨HX0.out.below (Below.drew (Below.refl w7.heap.size _)) HX0.out.lt, HX1.out.below (Below.drew (Below.refl w7.heap.size _)) HX1.out.lt⟩) ?_ ?_
    · intro ii hii L ρ u wx hl hp hc hu hn hW
      have hii : ii < 9 := hii
      have HNo := Lib.hid hn
      clear hn
      have hii : ii = 0 ∨ ii = 1 ∨ ii = 2 ∨ ii = 3 ∨ ii = 4 ∨ ii = 5 ∨ ii = 6 ∨ ii = 7 ∨ ii = 8 := by omega
      rcases hii with rfl | rfl | rfl | rfl | rfl | rfl | rfl | rfl | rfl
      · have xx0 := (hW.t0 (no_later hc hl (by kernel_rfl))).2.cell 0 rfl
        have xx1 := (hW.t0 (no_later hc hl (by kernel_rfl))).2.cell 1 rfl
        refine wpOp_go (E := True) rfl rfl (fun K' hK => ?_)
        go_simp
        refine hK.out _ _ ⟨ρ, (by simp only [put]; rfl), fun _ _ => rfl, hW.pure rfl rfl (by omega)⟩
      · refine wpOp_go (E := True) rfl rfl (fun K' hK => ?_)
        go_simp
        refine hK.out _ _ ⟨ρ, (by simp only [put]; rfl), fun _ _ => rfl, hW.pure rfl rfl (by omega)⟩
      · refine wpOp_go (E := True) rfl rfl (fun K' hK => ?_)
        go_simp
        refine hK.out _ _ ⟨ρ, (by simp only [put]; rfl), fun _ _ => rfl, hW.pure rfl rfl (by omega)⟩
      · refine wpOp_go (E := True) rfl rfl (fun K' hK => ?_)
        go_simp
        refine hK.out _ _ ⟨ρ, (by simp only [put]; rfl), fun _ _ => rfl, hW.pure rfl rfl (by omega)⟩
      · have e3 : u 3 = .pointer (some ⟨w.heap.size + 1, 0, none⟩) := hu 3 (all_of hp (by kernel_rfl))
        have nks : L 5 = false := no_later hc hl (by kernel_rfl)
        refine wpOp_go (E := True) rfl rfl (fun K' hK => ?_)
        go_simp
        go_at_call 28
        refine (spec_l20DrawHour _ _ (hW.sr nks)).mono ?_
        rintro e' w5 ⟨r, rfl, hs5, hk5⟩
        refine hK.out _ _ ⟨ρ.drawn 4 r, (by simp only [put, e3]; rfl), fun j hj => by
            have n8 : L 8 = false := no_later hc hl (by kernel_rfl)
            match j, hj with
            | 0, _ => rfl
            | 1, _ => rfl
            | 2, _ => rfl
            | 3, _ => rfl
            | 4, hj => rw [hl] at hj; cases hj
            | 5, _ => rfl
            | 6, _ => rfl
            | 7, _ => rfl
            | 8, hj => rw [n8] at hj; cases hj
            | _ + 9, _ => rfl, hW.call rfl (by omega) nks (by omega) hk5 hs5 (fun ⟨h1, h2⟩ => ⟨h1.keep hk5 (by omega), h2.keep hk5 (by omega)⟩) (by intro n hn; simp at hn)⟩
      · have e0 : u 0 = .agg #[.slice A N.nodes.length c, .slice Bq N.pipes.length d] := hu 0 (all_of hp (by kernel_rfl))
        have hb0 := (hW.t0 hl).1
        have hyX := hb0.lt
        have xx0 := hb0.cell 0 rfl
        have xx1 := hb0.cell 1 rfl
        have xf0 := hb0.frozen 0 rfl
        have xf1 := hb0.frozen 1 rfl
        refine wpOp_go (E := True) rfl rfl (fun K' hK => ?_)
        go_simp
        refine hK.out _ _ ⟨ρ, (by simp only [put, e0]; rfl), fun _ _ => rfl, hW.store rfl rfl (by intro k q; omega) ((((Keep.refl (· = w.heap.size) _).one _).one _).wide fun k q => Or.inr q) (bx2 (by simp; omega) (by simp [go_sem, xx0, xx1]) (by simp [go_sem, xf0]) (by simp [go_sem, xx0, xx1]) (by simp [go_sem, xf1]))⟩
      · have e1 : u 1 = .slice Al l.length cl := hu 1 (all_of hp (by kernel_rfl))
        refine wpOp_go (E := True) rfl rfl (fun K' hK => ?_)
        go_simp
        refine hK.out _ _ ⟨ρ, (by simp only [put, e1]; rfl), fun _ _ => rfl, hW.pure rfl rfl (by omega)⟩
      · have e2 : u 2 = .int .i64 (xq) := hu 2 (all_of hp (by kernel_rfl))
        refine wpOp_go (E := True) rfl rfl (fun K' hK => ?_)
        go_simp
        refine hK.out _ _ ⟨ρ, (by simp only [put, e2]; rfl), fun _ _ => rfl, hW.pure rfl rfl (by omega)⟩
      · have e4 : u 4 = .int .i64 (ρ.r 4) := hu 4 (all_of hp (by kernel_rfl))
        refine wpOp_go (E := True) rfl rfl (fun K' hK => ?_)
        go_simp
        refine hK.out _ _ ⟨ρ, (by simp only [put, e4]; rfl), fun _ _ => rfl, hW.pure rfl rfl (by omega)⟩
    · intro L ρ u wx hall hu hW
      have hb0 := hW.t1 (hall 5 (by show 5 < 9; omega))
      have cw0_0 := hb0.cell 0 rfl
      have cw0_1 := hb0.cell 1 rfl
      have eR0 : u 6 = .slice Al l.length cl := hu 6 (by show 6 < 9; omega)
      have eR1 : u 7 = .int .i64 (xq) := hu 7 (by show 7 < 9; omega)
      have eR2 : u 8 = .int .i64 (ρ.r 4) := hu 8 (by show 8 < 9; omega)
      have hkp := hW.kp
      clear hu hall hW hb0
      go_wp2
      refine bodyPost_ret (by simp [results, Tryz.results10, go_sem, cw0_0, cw0_1]; try rfl) rfl ?_
      exact ⟨A, Bq, Al, c, d, cl, N, l, xq, ρ.r 4, by simp [eR0, eR1, eR2, netV], hnc, HN7.out.keepC hkp (fun b off e q => by have := HA.out b off e; omega) (fun b off e q => by have := HB.out b off e; omega), HL7.out.keep hkp (fun b off e q => by have := HAl.out b off e; omega), hl33, HOK.out, hkp.below HB7.out (by omega) (by intro k q; omega), fun b off e => by have := HA.out b off e; omega, fun b off e => by have := HB.out b off e; omega, fun b off e => by have := HAl.out b off e; omega⟩
  · have b0 : (z == 0) = false := by simpa using e0
    go_wp2_with fail
    refine wp_region_tb (R := Zr) [some 27, some 28, some 29, some 30, some 31, none, some 3, some 4, some 5] _ (by intro u; simp only [frs, Act.put, List.setIfInBounds_toArray, List.set_cons_zero, List.set_cons_succ, Nat.reduceAdd]; exact rfl) (fun ρ j => ([.agg #[.slice A N.nodes.length c, .slice Bq N.pipes.length d], .slice Al l.length cl, .int .i64 (sh), .pointer (some ⟨w.heap.size + 1, 0, none⟩), .int .i64 (ρ.r 4), undef, .slice Al l.length cl, .int .i64 (sh), .int .i64 (ρ.r 4)] : List Value).getD j undef) (WZ (w.heap.size + 1) (fun k => k = w.heap.size) [] [] 5 (fun wt => Bx wt w.heap.size [.slice none 0 0, .slice none 0 0] ∧ Bx wt w2.heap.size [.slice A N.nodes.length c, .slice Bq N.pipes.length d]) (fun _ wt => Bx wt w.heap.size [.slice A N.nodes.length c, .slice Bq N.pipes.length d]) w5) (by kernel_rfl) (by kernel_rfl) Zr.zero (WZ.start (Keep.of_below _ (Below.drew (Below.refl _ _))) (HS5.out.below (Below.drew (Below.refl _ _))) ⟨HX0.out.below (Below.drew (Below.refl w5.heap.size _)) HX0.out.lt, HX1.out.below (Below.drew (Below.refl w5.heap.size _)) HX1.out.lt⟩) ?_ ?_
    · intro ii hii L ρ u wx hl hp hc hu hn hW
      have hii : ii < 9 := hii
      have HNo := Lib.hid hn
      clear hn
      have hii : ii = 0 ∨ ii = 1 ∨ ii = 2 ∨ ii = 3 ∨ ii = 4 ∨ ii = 5 ∨ ii = 6 ∨ ii = 7 ∨ ii = 8 := by omega
      rcases hii with rfl | rfl | rfl | rfl | rfl | rfl | rfl | rfl | rfl
      · have xx0 := (hW.t0 (no_later hc hl (by kernel_rfl))).2.cell 0 rfl
        have xx1 := (hW.t0 (no_later hc hl (by kernel_rfl))).2.cell 1 rfl
        refine wpOp_go (E := True) rfl rfl (fun K' hK => ?_)
        go_simp
        refine hK.out _ _ ⟨ρ, (by simp only [put]; rfl), fun _ _ => rfl, hW.pure rfl rfl (by omega)⟩
      · refine wpOp_go (E := True) rfl rfl (fun K' hK => ?_)
        go_simp
        refine hK.out _ _ ⟨ρ, (by simp only [put]; rfl), fun _ _ => rfl, hW.pure rfl rfl (by omega)⟩
      · refine wpOp_go (E := True) rfl rfl (fun K' hK => ?_)
        go_simp
        refine hK.out _ _ ⟨ρ, (by simp only [put]; rfl), fun _ _ => rfl, hW.pure rfl rfl (by omega)⟩
      · refine wpOp_go (E := True) rfl rfl (fun K' hK => ?_)
        go_simp
        refine hK.out _ _ ⟨ρ, (by simp only [put]; rfl), fun _ _ => rfl, hW.pure rfl rfl (by omega)⟩
      · have e3 : u 3 = .pointer (some ⟨w.heap.size + 1, 0, none⟩) := hu 3 (all_of hp (by kernel_rfl))
        have nks : L 5 = false := no_later hc hl (by kernel_rfl)
        refine wpOp_go (E := True) rfl rfl (fun K' hK => ?_)
        go_simp
        go_at_call 28
        refine (spec_l20DrawHour _ _ (hW.sr nks)).mono ?_
        rintro e' w5 ⟨r, rfl, hs5, hk5⟩
        refine hK.out _ _ ⟨ρ.drawn 4 r, (by simp only [put, e3]; rfl), fun j hj => by
            have n8 : L 8 = false := no_later hc hl (by kernel_rfl)
            match j, hj with
            | 0, _ => rfl
            | 1, _ => rfl
            | 2, _ => rfl
            | 3, _ => rfl
            | 4, hj => rw [hl] at hj; cases hj
            | 5, _ => rfl
            | 6, _ => rfl
            | 7, _ => rfl
            | 8, hj => rw [n8] at hj; cases hj
            | _ + 9, _ => rfl, hW.call rfl (by omega) nks (by omega) hk5 hs5 (fun ⟨h1, h2⟩ => ⟨h1.keep hk5 (by omega), h2.keep hk5 (by omega)⟩) (by intro n hn; simp at hn)⟩
      · have e0 : u 0 = .agg #[.slice A N.nodes.length c, .slice Bq N.pipes.length d] := hu 0 (all_of hp (by kernel_rfl))
        have hb0 := (hW.t0 hl).1
        have hyX := hb0.lt
        have xx0 := hb0.cell 0 rfl
        have xx1 := hb0.cell 1 rfl
        have xf0 := hb0.frozen 0 rfl
        have xf1 := hb0.frozen 1 rfl
        refine wpOp_go (E := True) rfl rfl (fun K' hK => ?_)
        go_simp
        refine hK.out _ _ ⟨ρ, (by simp only [put, e0]; rfl), fun _ _ => rfl, hW.store rfl rfl (by intro k q; omega) ((((Keep.refl (· = w.heap.size) _).one _).one _).wide fun k q => Or.inr q) (bx2 (by simp; omega) (by simp [go_sem, xx0, xx1]) (by simp [go_sem, xf0]) (by simp [go_sem, xx0, xx1]) (by simp [go_sem, xf1]))⟩
      · have e1 : u 1 = .slice Al l.length cl := hu 1 (all_of hp (by kernel_rfl))
        refine wpOp_go (E := True) rfl rfl (fun K' hK => ?_)
        go_simp
        refine hK.out _ _ ⟨ρ, (by simp only [put, e1]; rfl), fun _ _ => rfl, hW.pure rfl rfl (by omega)⟩
      · have e2 : u 2 = .int .i64 (sh) := hu 2 (all_of hp (by kernel_rfl))
        refine wpOp_go (E := True) rfl rfl (fun K' hK => ?_)
        go_simp
        refine hK.out _ _ ⟨ρ, (by simp only [put, e2]; rfl), fun _ _ => rfl, hW.pure rfl rfl (by omega)⟩
      · have e4 : u 4 = .int .i64 (ρ.r 4) := hu 4 (all_of hp (by kernel_rfl))
        refine wpOp_go (E := True) rfl rfl (fun K' hK => ?_)
        go_simp
        refine hK.out _ _ ⟨ρ, (by simp only [put, e4]; rfl), fun _ _ => rfl, hW.pure rfl rfl (by omega)⟩
    · intro L ρ u wx hall hu hW
      have hb0 := hW.t1 (hall 5 (by show 5 < 9; omega))
      have cw0_0 := hb0.cell 0 rfl
      have cw0_1 := hb0.cell 1 rfl
      have eR0 : u 6 = .slice Al l.length cl := hu 6 (by show 6 < 9; omega)
      have eR1 : u 7 = .int .i64 (sh) := hu 7 (by show 7 < 9; omega)
      have eR2 : u 8 = .int .i64 (ρ.r 4) := hu 8 (by show 8 < 9; omega)
      have hkp := hW.kp
      clear hu hall hW hb0
      go_wp2
      refine bodyPost_ret (by simp [results, Tryz.results10, go_sem, cw0_0, cw0_1]; try rfl) rfl ?_
      exact ⟨A, Bq, Al, c, d, cl, N, l, sh, ρ.r 4, by simp [eR0, eR1, eR2, netV], hnc, HN5.out.keepC hkp (fun b off e q => by have := HA.out b off e; omega) (fun b off e q => by have := HB.out b off e; omega), HL5.out.keep hkp (fun b off e q => by have := HAl.out b off e; omega), hl33, HOK.out, hkp.below HB5.out (by omega) (by intro k q; omega), fun b off e => by have := HA.out b off e; omega, fun b off e => by have := HB.out b off e; omega, fun b off e => by have := HAl.out b off e; omega⟩
end Go.Proofs.YtbdacplndmnkhaaGreatDoor
