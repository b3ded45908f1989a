/- The draw of FnTotals. -/
import Derived.Test.YtmkecbnnanddkaaDor
namespace Go.Proofs.Ytmkecbnnanddkaa
set_option linter.unusedVariables false
set_option linter.unusedSimpArgs false
open Go.RowKit
set_option maxRecDepth 100000 in
set_option maxHeartbeats 8000000 in
theorem spec_DrawTotalsOf (A0 : Option Addr) (c0 : Nat) (l0 : List Int) (w : World) (h : BytesIn w A0 l0) (hl : l0.length ≤ 4096) :
    Calls Try.prog 7 #[.slice A0 l0.length c0] w fun e w' => ∃ (A Bq Al : Option Addr) (c d cl : Nat) (N : Net) (l : List Ord) (x : Int), e = .returned (.tuple #[netV A Bq N.nodes.length c N.pipes.length d, .slice Al l.length cl, .int .i64 x]) ∧ N.nodes.length ≤ c ∧ NetAt w' A Bq N ∧ Rd w' Al (l.flatMap Ord.cells) ∧ l.length ≤ 128 ∧ Below w.heap.size w w' := by
  have HI := Lib.hid h
  clear h
  go_enter Try.func7, Try.ntmps7
  go_wp2_with fail
  refine (spec_l01From A0 c0 l0 _ (HI.out.below (by (repeat' (first | (with_reducible exact Below.refl _ _) | (with_reducible assumption) | (with_reducible refine Below.alloc ?_ ?_ _) | (with_reducible refine Below.drew ?_) | (with_reducible refine Below.drewN' ?_ _) | (with_reducible refine Below.setCell ?_ ?_ _) | (refine Below.via ?_ (by with_reducible assumption) ?_) | (with_reducible refine Below.via ?_ (Wd.h _) ?_) | go_size)))) hl).mono ?_
  rintro e w1 ⟨rfl, hs1, hb1⟩
  have hs1 : Src w1 (w.heap.size + 1) := by simpa using hs1
  have HS1 := Lib.hid hs1
  have hp1 := hs1.lt
  clear hs1
  (obtain ⟨hcn, hfn⟩ := bcell hb1; have hz1 := hb1.size; (try simp at hz1); have Ncw0_0 := hcn (w.heap.size) (0) (by first | omega | (simp; done) | (simp; omega)); have Nfw0_0 := hfn (w.heap.size) (0) (by first | omega | (simp; done) | (simp; omega)); have Nhy0 : w.heap.size < w1.heap.size := (by omega); have Ncw0_1 := hcn (w.heap.size) (1) (by first | omega | (simp; done) | (simp; omega)); have Nfw0_1 := hfn (w.heap.size) (1) (by first | omega | (simp; done) | (simp; omega)); simp [go_sem] at Ncw0_0 Nfw0_0 Ncw0_1 Nfw0_1; clear hcn hfn; have cw0_0 := Ncw0_0; have fw0_0 := Nfw0_0; have cw0_1 := Ncw0_1; have fw0_1 := Nfw0_1; have hy0 := Nhy0; clear Ncw0_0 Nfw0_0 Ncw0_1 Nfw0_1 Nhy0)
  go_wp2_with fail
  refine (spec_l22Draw (w.heap.size + 1) _ (HS1.out.below (by (repeat' (first | (with_reducible exact Below.refl _ _) | (with_reducible assumption) | (with_reducible refine Below.alloc ?_ ?_ _) | (with_reducible refine Below.drew ?_) | (with_reducible refine Below.drewN' ?_ _) | (with_reducible refine Below.setCell ?_ ?_ _) | (refine Below.via ?_ (by with_reducible assumption) ?_) | (with_reducible refine Below.via ?_ (Wd.h _) ?_) | go_size))))).mono ?_
  rintro e w2 ⟨A, Bq, Al, c, d, cl, n2, N, xs, rfl, ⟨l, rfl, rfl⟩, hnc, hN, hL, hl8, hs2, hk2, hA, hB, hAl⟩
  have HN := Lib.hid hN
  have HL := Lib.hid hL
  have HS2 := Lib.hid hs2
  have HB2 := Lib.hid (show Below w.heap.size w w2 from hk2.below (by (repeat' (first | (with_reducible exact Below.refl _ _) | (with_reducible assumption) | (with_reducible refine Below.alloc ?_ ?_ _) | (with_reducible refine Below.drew ?_) | (with_reducible refine Below.drewN' ?_ _) | (with_reducible refine Below.setCell ?_ ?_ _) | (refine Below.via ?_ (by with_reducible assumption) ?_) | (with_reducible refine Below.via ?_ (Wd.h _) ?_) | go_size))) (by go_size) (by intro k hq; (try simp only at hq); omega))
  (have hz2 := hk2.size; (try simp at hz2); have Ncw0_0 := hk2.cell (w.heap.size) (0) (by first | omega | (simp; done) | (simp; omega)) (by intro hq; (try simp only at hq); omega); have Nfw0_0 := hk2.frozen (w.heap.size) (0) (by first | omega | (simp; done) | (simp; omega)) (by intro hq; (try simp only at hq); omega); have Nhy0 : w.heap.size < w2.heap.size := (by omega); have Ncw0_1 := hk2.cell (w.heap.size) (1) (by first | omega | (simp; done) | (simp; omega)) (by intro hq; (try simp only at hq); omega); have Nfw0_1 := hk2.frozen (w.heap.size) (1) (by first | omega | (simp; done) | (simp; omega)) (by intro hq; (try simp only at hq); omega); simp [go_sem, cw0_0, fw0_0, cw0_1, fw0_1, hy0] at Ncw0_0 Nfw0_0 Ncw0_1 Nfw0_1; clear cw0_0 fw0_0 cw0_1 fw0_1 hy0; have cw0_0 := Ncw0_0; have fw0_0 := Nfw0_0; have cw0_1 := Ncw0_1; have fw0_1 := Nfw0_1; have hy0 := Nhy0; clear Ncw0_0 Nfw0_0 Ncw0_1 Nfw0_1 Nhy0)
  have HX0 := Lib.hid (show Bx w2 w.heap.size [.slice none 0 0, .slice none 0 0] from bx2 hy0 cw0_0 fw0_0 cw0_1 fw0_1)
  have HA := Lib.hid (show ∀ b off, A = some ⟨b, off, none⟩ → w.heap.size + 1 < b from fun b off e => by have := hA b off e; omega)
  have HB := Lib.hid (show ∀ b off, Bq = some ⟨b, off, none⟩ → w.heap.size + 1 < b from fun b off e => by have := hB b off e; omega)
  have HAl := Lib.hid (show ∀ b off, Al = some ⟨b, off, none⟩ → w.heap.size + 1 < b from fun b off e => by have := hAl b off e; omega)
  clear hN hL hs2 hk2 hb1 hy0 cw0_0 fw0_0 cw0_1 fw0_1 hA hB hAl
  go_wp2_with fail
  generalize hW : World.alloc w2 _ = w3
  have hb3 : Below w2.heap.size w2 w3 := by rw [← hW]; (repeat' (first | (with_reducible exact Below.refl _ _) | (with_reducible assumption) | (with_reducible refine Below.alloc ?_ ?_ _) | (with_reducible refine Below.drew ?_) | (with_reducible refine Below.drewN' ?_ _) | (with_reducible refine Below.setCell ?_ ?_ _) | (refine Below.via ?_ (by with_reducible assumption) ?_) | (with_reducible refine Below.via ?_ (Wd.h _) ?_) | go_size))
  have HX1 := Lib.hid (show Bx w3 w2.heap.size [.slice A N.nodes.length c, .slice Bq N.pipes.length d] by rw [← hW]; exact bx2 (by simp) (by simp) (by simp) (by simp) (by simp))
  have HX0 := Lib.hid (HX0.out.below hb3 HX0.out.lt)
  have HS3 := Lib.hid (HS2.out.below hb3)
  have HB3 := Lib.hid (HB2.out.trans (hb3.mono (by omega)))
  have HN3 := Lib.hid (HN.out.below hb3)
  have HL3 := Lib.hid (HL.out.below hb3)
  have hz3 := hb3.size
  clear hW hb3 HN HL HS2 HB2
  refine (spec_l01Next (w.heap.size + 1) _ _ HS3.out (by omega)).mono ?_
  rintro e w4 ⟨z, rfl, za, _, zb, hs4, hk4⟩
  have HX1 := Lib.hid (HX1.out.keep hk4 (by omega))
  have HX0 := Lib.hid (HX0.out.keep hk4 (by omega))
  have HB4 := Lib.hid (show Below w.heap.size w w4 from hk4.below HB3.out (by omega) (by intro k hq; (try simp only at hq); omega))
  have HN4 := Lib.hid (HN3.out.keepC hk4 (fun b off e q => by have := HA.out b off e; omega) (fun b off e q => by have := HB.out b off e; omega))
  have HL4 := Lib.hid (HL3.out.keep hk4 (fun b off e q => by have := HAl.out b off e; omega))
  have HS4 := Lib.hid hs4
  have hl4 := HX1.out.lt
  have hz4 := hk4.size
  clear hs4 hk4 zb HN3 HL3 HS3 HB3
  by_cases e0 : z = 0
  · subst e0
    go_wp2_with fail
    refine wp_region_tb (R := Zr) [some 18, some 19, some 20, some 21, some 22, some 23, some 24, none, some 3, some 4] _ (by intro u; simp only [frs, Act.put, List.setIfInBounds_toArray, List.set_cons_zero, List.set_cons_succ, Nat.reduceAdd]; exact rfl) (fun ρ j => ([.agg #[.slice A N.nodes.length c, .slice Bq N.pipes.length d], .slice Al l.length cl, .slice (some ⟨ρ.b 2, 0, none⟩) 2 2, .pointer (some ⟨w.heap.size + 1, 0, none⟩), .int .i64 (ρ.r 4), .pointer (some ⟨ρ.b 2, (ρ.r 4).toNat, none⟩), .int .i64 ((ρ.c 2).getD (ρ.r 4).toNat 0), undef, .slice Al l.length cl, .int .i64 ((ρ.c 2).getD (ρ.r 4).toNat 0)] : List Value).getD j undef) (WZ (w.heap.size + 1) (fun k => k = w.heap.size) [(4, 2)] [(2, 2, -1, 16)] 7 (fun wt => Bx wt w.heap.size [.slice none 0 0, .slice none 0 0] ∧ Bx wt w2.heap.size [.slice A N.nodes.length c, .slice Bq N.pipes.length d]) (fun _ wt => Bx wt w.heap.size [.slice A N.nodes.length c, .slice Bq N.pipes.length d]) w4) (by kernel_rfl) (by kernel_rfl) Zr.zero (WZ.start (Keep.of_below _ (Below.drew (Below.refl _ _))) (HS4.out.below (Below.drew (Below.refl _ _))) ⟨HX0.out.below (Below.drew (Below.refl w4.heap.size _)) HX0.out.lt, HX1.out.below (Below.drew (Below.refl w4.heap.size _)) HX1.out.lt⟩) ?_ ?_
    · intro ii hii L ρ u wx hl hp hc hu hn hW
      have hii : ii < 10 := hii
      have HNo := Lib.hid hn
      clear hn
      have hii : ii = 0 ∨ ii = 1 ∨ ii = 2 ∨ ii = 3 ∨ ii = 4 ∨ ii = 5 ∨ ii = 6 ∨ ii = 7 ∨ ii = 8 ∨ ii = 9 := by omega
      rcases hii with rfl | rfl | rfl | rfl | rfl | rfl | rfl | rfl | rfl | rfl
      · have xx0 := (hW.t0 (no_later hc hl (by kernel_rfl))).2.cell 0 rfl
        have xx1 := (hW.t0 (no_later hc hl (by kernel_rfl))).2.cell 1 rfl
        refine wpOp_go (E := True) rfl rfl (fun K' hK => ?_)
        go_simp
        refine hK.out _ _ ⟨ρ, (by simp only [put]; rfl), fun _ _ => rfl, hW.pure rfl rfl (by omega)⟩
      · refine wpOp_go (E := True) rfl rfl (fun K' hK => ?_)
        go_simp
        refine hK.out _ _ ⟨ρ, (by simp only [put]; rfl), fun _ _ => rfl, hW.pure rfl rfl (by omega)⟩
      · refine wpOp_go (E := True) rfl rfl (fun K' hK => ?_)
        go_simp
        generalize hW5 : World.alloc wx _ = w5
        have hb5 : Below wx.heap.size wx w5 := by rw [← hW5]; (repeat' (first | (with_reducible exact Below.refl _ _) | (with_reducible assumption) | (with_reducible refine Below.alloc ?_ ?_ _) | (with_reducible refine Below.drew ?_) | (with_reducible refine Below.drewN' ?_ _) | (with_reducible refine Below.setCell ?_ ?_ _) | (refine Below.via ?_ (by with_reducible assumption) ?_) | (with_reducible refine Below.via ?_ (Wd.h _) ?_) | go_size))
        have hx5 : Bx w5 wx.heap.size (([-1, 16] : List Int).map iV) := by rw [← hW5]; exact bx2 (by simp) (by simp) (by simp) (by simp) (by simp)
        clear hW5
        refine hK.out _ _ ⟨ρ.made 2 wx.heap.size [-1, 16], (by simp only [put]; rfl), fun j hj => by
            have n5 : L 5 = false := no_later hc hl (by kernel_rfl)
            have n6 : L 6 = false := no_later hc n5 (by kernel_rfl)
            have n9 : L 9 = false := no_later hc n6 (by kernel_rfl)
            match j, hj with
            | 0, _ => rfl
            | 1, _ => rfl
            | 2, hj => rw [hl] at hj; cases hj
            | 3, _ => rfl
            | 4, _ => rfl
            | 5, hj => rw [n5] at hj; cases hj
            | 6, hj => rw [n6] at hj; cases hj
            | 7, _ => rfl
            | 8, _ => rfl
            | 9, hj => rw [n9] at hj; cases hj
            | _ + 10, _ => rfl, hW.made rfl (by omega) hb5 (fun ⟨h1, h2⟩ => ⟨h1.below hb5 h1.lt, h2.below hb5 h2.lt⟩) (fun h1 => h1.below hb5 h1.lt) hx5 (by intro k lo hi hm; simp at hm; obtain ⟨rfl, rfl, rfl⟩ := hm; refine ⟨rfl, fun x hx => ?_⟩; simp at hx; omega)⟩
      · refine wpOp_go (E := True) rfl rfl (fun K' hK => ?_)
        go_simp
        refine hK.out _ _ ⟨ρ, (by simp only [put]; rfl), fun _ _ => rfl, hW.pure rfl rfl (by omega)⟩
      · have e3 : u 3 = .pointer (some ⟨w.heap.size + 1, 0, none⟩) := hu 3 (all_of hp (by kernel_rfl))
        have nks : L 7 = false := no_later hc hl (by kernel_rfl)
        refine wpOp_go (E := True) rfl rfl (fun K' hK => ?_)
        go_simp
        go_at_call 27
        refine (spec_l01Next _ _ _ (hW.sr nks) (by omega)).mono ?_
        rintro e' w5 ⟨r, rfl, ra, _, rb, hs5, hk5⟩
        have rc := rb (by omega)
        refine hK.out _ _ ⟨ρ.drawn 4 r, (by simp only [put, e3]; rfl), fun j hj => by
            have n5 : L 5 = false := no_later hc hl (by kernel_rfl)
            have n6 : L 6 = false := no_later hc n5 (by kernel_rfl)
            have n9 : L 9 = false := no_later hc n6 (by kernel_rfl)
            match j, hj with
            | 0, _ => rfl
            | 1, _ => rfl
            | 2, _ => rfl
            | 3, _ => rfl
            | 4, hj => rw [hl] at hj; cases hj
            | 5, hj => rw [n5] at hj; cases hj
            | 6, hj => rw [n6] at hj; cases hj
            | 7, _ => rfl
            | 8, _ => rfl
            | 9, hj => rw [n9] at hj; cases hj
            | _ + 10, _ => rfl, hW.call rfl (by omega) nks (by omega) hk5 hs5 (fun ⟨h1, h2⟩ => ⟨h1.keep hk5 (by omega), h2.keep hk5 (by omega)⟩) (by intro n hn; simp at hn; omega)⟩
      · have e2 : u 2 = .slice (some ⟨ρ.b 2, 0, none⟩) 2 2 := hu 2 (all_of hp (by kernel_rfl))
        have e4 : u 4 = .int .i64 (ρ.r 4) := hu 4 (all_of hp (by kernel_rfl))
        obtain ⟨ra4, rb4⟩ := hW.dr 4 (2) (by simp) (all_of hp (by kernel_rfl))
        obtain ⟨pk1, -, -, -, -⟩ := hW.pick (i := 2) (j := 4) (k := 2) (lo := -1) (hi := 16) (n := 2) (by simp) (by simp) (by omega) (all_of hp (by kernel_rfl)) (all_of hp (by kernel_rfl))
        refine wpOp_go (E := True) rfl rfl (fun K' hK => ?_)
        go_simp
        refine hK.out _ _ ⟨ρ, (by simp only [put, e2, e4]; rfl), fun _ _ => rfl, hW.pure rfl rfl (by omega)⟩
      · have e5 : u 5 = .pointer (some ⟨ρ.b 2, (ρ.r 4).toNat, none⟩) := hu 5 (all_of hp (by kernel_rfl))
        obtain ⟨ra4, rb4⟩ := hW.dr 4 (2) (by simp) (all_of (hc 5 (all_of hp (by kernel_rfl))) (by kernel_rfl))
        obtain ⟨pk1, -, pk3, -, -⟩ := hW.pick (i := 2) (j := 4) (k := 2) (lo := -1) (hi := 16) (n := 2) (by simp) (by simp) (by omega) (all_of (hc 5 (all_of hp (by kernel_rfl))) (by kernel_rfl)) (all_of (hc 5 (all_of hp (by kernel_rfl))) (by kernel_rfl))
        have pk4 := (hW.md 2 2 (-1) (16) (by simp) (all_of (hc 5 (all_of hp (by kernel_rfl))) (by kernel_rfl))).2.cell (ρ.r 4).toNat (by rw [List.getElem?_map, pk3]; rfl)
        clear pk3
        refine wpOp_go (E := True) rfl rfl (fun K' hK => ?_)
        go_simp
        refine hK.out _ _ ⟨ρ, (by simp only [put, e5]; rfl), fun _ _ => rfl, hW.pure rfl rfl (by omega)⟩
      · have e0 : u 0 = .agg #[.slice A N.nodes.length c, .slice Bq N.pipes.length d] := hu 0 (all_of hp (by kernel_rfl))
        have hb0 := (hW.t0 hl).1
        have hyX := hb0.lt
        have xx0 := hb0.cell 0 rfl
        have xx1 := hb0.cell 1 rfl
        have xf0 := hb0.frozen 0 rfl
        have xf1 := hb0.frozen 1 rfl
        refine wpOp_go (E := True) rfl rfl (fun K' hK => ?_)
        go_simp
        refine hK.out _ _ ⟨ρ, (by simp only [put, e0]; rfl), fun _ _ => rfl, hW.store rfl rfl (by intro k q; omega) ((((Keep.refl (· = w.heap.size) _).one _).one _).wide fun k q => Or.inr q) (bx2 (by simp; omega) (by simp [go_sem, xx0, xx1]) (by simp [go_sem, xf0]) (by simp [go_sem, xx0, xx1]) (by simp [go_sem, xf1]))⟩
      · have e1 : u 1 = .slice Al l.length cl := hu 1 (all_of hp (by kernel_rfl))
        refine wpOp_go (E := True) rfl rfl (fun K' hK => ?_)
        go_simp
        refine hK.out _ _ ⟨ρ, (by simp only [put, e1]; rfl), fun _ _ => rfl, hW.pure rfl rfl (by omega)⟩
      · have e6 : u 6 = .int .i64 ((ρ.c 2).getD (ρ.r 4).toNat 0) := hu 6 (all_of hp (by kernel_rfl))
        obtain ⟨ra4, rb4⟩ := hW.dr 4 (2) (by simp) (all_of (hc 5 (all_of (hc 6 (all_of hp (by kernel_rfl))) (by kernel_rfl))) (by kernel_rfl))
        refine wpOp_go (E := True) rfl rfl (fun K' hK => ?_)
        go_simp
        refine hK.out _ _ ⟨ρ, (by simp only [put, e6]; rfl), fun _ _ => rfl, hW.pure rfl rfl (by omega)⟩
    · intro L ρ u wx hall hu hW
      have hb0 := hW.t1 (hall 7 (by show 7 < 10; omega))
      have cw0_0 := hb0.cell 0 rfl
      have cw0_1 := hb0.cell 1 rfl
      have eA : u 8 = .slice Al l.length cl := hu 8 (by show 8 < 10; omega)
      have eL : u 9 = .int .i64 ((ρ.c 2).getD (ρ.r 4).toNat 0) := hu 9 (by show 9 < 10; omega)
      have hkp := hW.kp
      clear hu hall hW hb0
      go_wp2
      refine bodyPost_ret (by simp [results, Try.results7, go_sem, cw0_0, cw0_1]; try rfl) rfl ?_
      exact ⟨A, Bq, Al, c, d, cl, N, l, (ρ.c 2).getD (ρ.r 4).toNat 0, by simp [eA, eL, netV], hnc, HN4.out.keepC hkp (fun b off e q => by have := HA.out b off e; omega) (fun b off e q => by have := HB.out b off e; omega), HL4.out.keep hkp (fun b off e q => by have := HAl.out b off e; omega), hl8, hkp.below HB4.out (by omega) (by intro k q; omega)⟩
  · have b0 : (z == 0) = false := by simpa using e0
    go_wp2_with fail
    refine wp_region_tb (R := Zr) [some 25, some 26, some 27, some 28, none, some 3, some 4] _ (by intro u; simp only [frs, Act.put, List.setIfInBounds_toArray, List.set_cons_zero, List.set_cons_succ, Nat.reduceAdd]; exact rfl) (fun ρ j => ([.agg #[.slice A N.nodes.length c, .slice Bq N.pipes.length d], .slice Al l.length cl, .pointer (some ⟨w.heap.size + 1, 0, none⟩), .int .i64 (ρ.r 3), undef, .slice Al l.length cl, .int .i64 (ρ.r 3)] : List Value).getD j undef) (WZ (w.heap.size + 1) (fun k => k = w.heap.size) [(3, 4)] [] 4 (fun wt => Bx wt w.heap.size [.slice none 0 0, .slice none 0 0] ∧ Bx wt w2.heap.size [.slice A N.nodes.length c, .slice Bq N.pipes.length d]) (fun _ wt => Bx wt w.heap.size [.slice A N.nodes.length c, .slice Bq N.pipes.length d]) w4) (by kernel_rfl) (by kernel_rfl) Zr.zero (WZ.start (Keep.of_below _ (Below.drew (Below.refl _ _))) (HS4.out.below (Below.drew (Below.refl _ _))) ⟨HX0.out.below (Below.drew (Below.refl w4.heap.size _)) HX0.out.lt, HX1.out.below (Below.drew (Below.refl w4.heap.size _)) HX1.out.lt⟩) ?_ ?_
    · intro ii hii L ρ u wx hl hp hc hu hn hW
      have hii : ii < 7 := hii
      have HNo := Lib.hid hn
      clear hn
      have hii : ii = 0 ∨ ii = 1 ∨ ii = 2 ∨ ii = 3 ∨ ii = 4 ∨ ii = 5 ∨ ii = 6 := by omega
      rcases hii with rfl | rfl | rfl | rfl | rfl | rfl | rfl
      · have xx0 := (hW.t0 (no_later hc hl (by kernel_rfl))).2.cell 0 rfl
        have xx1 := (hW.t0 (no_later hc hl (by kernel_rfl))).2.cell 1 rfl
        refine wpOp_go (E := True) rfl rfl (fun K' hK => ?_)
        go_simp
        refine hK.out _ _ ⟨ρ, (by simp only [put]; rfl), fun _ _ => rfl, hW.pure rfl rfl (by omega)⟩
      · refine wpOp_go (E := True) rfl rfl (fun K' hK => ?_)
        go_simp
        refine hK.out _ _ ⟨ρ, (by simp only [put]; rfl), fun _ _ => rfl, hW.pure rfl rfl (by omega)⟩
      · refine wpOp_go (E := True) rfl rfl (fun K' hK => ?_)
        go_simp
        refine hK.out _ _ ⟨ρ, (by simp only [put]; rfl), fun _ _ => rfl, hW.pure rfl rfl (by omega)⟩
      · have e2 : u 2 = .pointer (some ⟨w.heap.size + 1, 0, none⟩) := hu 2 (all_of hp (by kernel_rfl))
        have nks : L 4 = false := no_later hc hl (by kernel_rfl)
        refine wpOp_go (E := True) rfl rfl (fun K' hK => ?_)
        go_simp
        go_at_call 27
        refine (spec_l01Next _ _ _ (hW.sr nks) (by omega)).mono ?_
        rintro e' w5 ⟨r, rfl, ra, _, rb, hs5, hk5⟩
        have rc := rb (by omega)
        refine hK.out _ _ ⟨ρ.drawn 3 r, (by simp only [put, e2]; rfl), fun j hj => by
            have n6 : L 6 = false := no_later hc hl (by kernel_rfl)
            match j, hj with
            | 0, _ => rfl
            | 1, _ => rfl
            | 2, _ => rfl
            | 3, hj => rw [hl] at hj; cases hj
            | 4, _ => rfl
            | 5, _ => rfl
            | 6, hj => rw [n6] at hj; cases hj
            | _ + 7, _ => rfl, hW.call rfl (by omega) nks (by omega) hk5 hs5 (fun ⟨h1, h2⟩ => ⟨h1.keep hk5 (by omega), h2.keep hk5 (by omega)⟩) (by intro n hn; simp at hn; omega)⟩
      · have e0 : u 0 = .agg #[.slice A N.nodes.length c, .slice Bq N.pipes.length d] := hu 0 (all_of hp (by kernel_rfl))
        have hb0 := (hW.t0 hl).1
        have hyX := hb0.lt
        have xx0 := hb0.cell 0 rfl
        have xx1 := hb0.cell 1 rfl
        have xf0 := hb0.frozen 0 rfl
        have xf1 := hb0.frozen 1 rfl
        refine wpOp_go (E := True) rfl rfl (fun K' hK => ?_)
        go_simp
        refine hK.out _ _ ⟨ρ, (by simp only [put, e0]; rfl), fun _ _ => rfl, hW.store rfl rfl (by intro k q; omega) ((((Keep.refl (· = w.heap.size) _).one _).one _).wide fun k q => Or.inr q) (bx2 (by simp; omega) (by simp [go_sem, xx0, xx1]) (by simp [go_sem, xf0]) (by simp [go_sem, xx0, xx1]) (by simp [go_sem, xf1]))⟩
      · have e1 : u 1 = .slice Al l.length cl := hu 1 (all_of hp (by kernel_rfl))
        refine wpOp_go (E := True) rfl rfl (fun K' hK => ?_)
        go_simp
        refine hK.out _ _ ⟨ρ, (by simp only [put, e1]; rfl), fun _ _ => rfl, hW.pure rfl rfl (by omega)⟩
      · have e3 : u 3 = .int .i64 (ρ.r 3) := hu 3 (all_of hp (by kernel_rfl))
        obtain ⟨ra3, rb3⟩ := hW.dr 3 (4) (by simp) (all_of hp (by kernel_rfl))
        refine wpOp_go (E := True) rfl rfl (fun K' hK => ?_)
        go_simp
        refine hK.out _ _ ⟨ρ, (by simp only [put, e3]; rfl), fun _ _ => rfl, hW.pure rfl rfl (by omega)⟩
    · intro L ρ u wx hall hu hW
      have hb0 := hW.t1 (hall 4 (by show 4 < 7; omega))
      have cw0_0 := hb0.cell 0 rfl
      have cw0_1 := hb0.cell 1 rfl
      have eA : u 5 = .slice Al l.length cl := hu 5 (by show 5 < 7; omega)
      have eL : u 6 = .int .i64 (ρ.r 3) := hu 6 (by show 6 < 7; omega)
      have hkp := hW.kp
      clear hu hall hW hb0
      go_wp2
      refine bodyPost_ret (by simp [results, Try.results7, go_sem, cw0_0, cw0_1]; try rfl) rfl ?_
      exact ⟨A, Bq, Al, c, d, cl, N, l, ρ.r 3, by simp [eA, eL, netV], hnc, HN4.out.keepC hkp (fun b off e q => by have := HA.out b off e; omega) (fun b off e q => by have := HB.out b off e; omega), HL4.out.keep hkp (fun b off e q => by have := HAl.out b off e; omega), hl8, hkp.below HB4.out (by omega) (by intro k q; omega)⟩
end Go.Proofs.Ytmkecbnnanddkaa
