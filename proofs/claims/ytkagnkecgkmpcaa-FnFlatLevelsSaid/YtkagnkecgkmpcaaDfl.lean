/- The draw of FnFlatLevels. -/
import Derived.Test.YtkagnkecgkmpcaaDe
import Derived.Test.YtkagnkecgkmpcaaLv
import Derived.Test.YtkagnkecgkmpcaaZw
namespace Go.Proofs.Ytkagnkecgkmpcaa
set_option linter.unusedVariables false
set_option linter.unusedSimpArgs false
open Go.RowKit
set_option maxRecDepth 100000 in
set_option maxHeartbeats 8000000 in
theorem spec_DrawFlatLevel (A0 : Option Addr) (c0 : Nat) (l0 : List Int) (w : World) (h : BytesIn w A0 l0) (hl : l0.length ≤ 4096) :
    Calls Try.prog 14 #[.slice A0 l0.length c0] w fun e w' => ∃ (A Bq : Option Addr) (c d : Nat) (N : Net) (x : Int), e = .returned (.tuple #[netV A Bq N.nodes.length c N.pipes.length d, .int .i64 x]) ∧ N.nodes.length ≤ c ∧ NetAt w' A Bq N ∧ Below w.heap.size w w' := by
  have HI := Lib.hid h
  clear h
  go_enter Try.func14, Try.ntmps14
  go_wp2_with fail
  refine (spec_l01From A0 c0 l0 _ (HI.out.below (by (repeat' (first | (with_reducible exact Below.refl _ _) | (with_reducible assumption) | (with_reducible refine Below.alloc ?_ ?_ _) | (with_reducible refine Below.drew ?_) | (with_reducible refine Below.drewN' ?_ _) | (with_reducible refine Below.setCell ?_ ?_ _) | (refine Below.via ?_ (by with_reducible assumption) ?_) | (with_reducible refine Below.via ?_ (Wd.h _) ?_) | go_size)))) hl).mono ?_
  rintro e w1 ⟨rfl, hs1, hb1⟩
  have hs1 : Src w1 (w.heap.size + 1) := by simpa using hs1
  have HS1 := Lib.hid hs1
  have hp1 := hs1.lt
  clear hs1
  (obtain ⟨hcn, hfn⟩ := bcell hb1; have hz1 := hb1.size; (try simp at hz1); have Ncw0_0 := hcn (w.heap.size) (0) (by first | omega | (simp; done) | (simp; omega)); have Nfw0_0 := hfn (w.heap.size) (0) (by first | omega | (simp; done) | (simp; omega)); have Nhy0 : w.heap.size < w1.heap.size := (by omega); have Ncw0_1 := hcn (w.heap.size) (1) (by first | omega | (simp; done) | (simp; omega)); have Nfw0_1 := hfn (w.heap.size) (1) (by first | omega | (simp; done) | (simp; omega)); simp [go_sem] at Ncw0_0 Nfw0_0 Ncw0_1 Nfw0_1; clear hcn hfn; have cw0_0 := Ncw0_0; have fw0_0 := Nfw0_0; have cw0_1 := Ncw0_1; have fw0_1 := Nfw0_1; have hy0 := Nhy0; clear Ncw0_0 Nfw0_0 Ncw0_1 Nfw0_1 Nhy0)
  go_wp2_with fail
  refine (spec_l18Draw (w.heap.size + 1) _ (HS1.out.below (by (repeat' (first | (with_reducible exact Below.refl _ _) | (with_reducible assumption) | (with_reducible refine Below.alloc ?_ ?_ _) | (with_reducible refine Below.drew ?_) | (with_reducible refine Below.drewN' ?_ _) | (with_reducible refine Below.setCell ?_ ?_ _) | (refine Below.via ?_ (by with_reducible assumption) ?_) | (with_reducible refine Below.via ?_ (Wd.h _) ?_) | go_size))))).mono ?_
  rintro e w2 ⟨A, Bq, Al, c, d, cl, N, l, rfl, hnc, hN, hL, hl8, hbd, hs2, hk2, hA, hB, hAl⟩
  have HN := Lib.hid hN
  have HL := Lib.hid hL
  have HS2 := Lib.hid hs2
  have HB2 := Lib.hid (show Below w.heap.size w w2 from hk2.below (by (repeat' (first | (with_reducible exact Below.refl _ _) | (with_reducible assumption) | (with_reducible refine Below.alloc ?_ ?_ _) | (with_reducible refine Below.drew ?_) | (with_reducible refine Below.drewN' ?_ _) | (with_reducible refine Below.setCell ?_ ?_ _) | (refine Below.via ?_ (by with_reducible assumption) ?_) | (with_reducible refine Below.via ?_ (Wd.h _) ?_) | go_size))) (by go_size) (by intro k hq; (try simp only at hq); omega))
  (have hz2 := hk2.size; (try simp at hz2); have Ncw0_0 := hk2.cell (w.heap.size) (0) (by first | omega | (simp; done) | (simp; omega)) (by intro hq; (try simp only at hq); omega); have Nfw0_0 := hk2.frozen (w.heap.size) (0) (by first | omega | (simp; done) | (simp; omega)) (by intro hq; (try simp only at hq); omega); have Nhy0 : w.heap.size < w2.heap.size := (by omega); have Ncw0_1 := hk2.cell (w.heap.size) (1) (by first | omega | (simp; done) | (simp; omega)) (by intro hq; (try simp only at hq); omega); have Nfw0_1 := hk2.frozen (w.heap.size) (1) (by first | omega | (simp; done) | (simp; omega)) (by intro hq; (try simp only at hq); omega); simp [go_sem, cw0_0, fw0_0, cw0_1, fw0_1, hy0] at Ncw0_0 Nfw0_0 Ncw0_1 Nfw0_1; clear cw0_0 fw0_0 cw0_1 fw0_1 hy0; have cw0_0 := Ncw0_0; have fw0_0 := Nfw0_0; have cw0_1 := Ncw0_1; have fw0_1 := Nfw0_1; have hy0 := Nhy0; clear Ncw0_0 Nfw0_0 Ncw0_1 Nfw0_1 Nhy0)
  have HX0 := Lib.hid (show Bx w2 w.heap.size [.slice none 0 0, .slice none 0 0] from bx2 hy0 cw0_0 fw0_0 cw0_1 fw0_1)
  have HA := Lib.hid (show ∀ b off, A = some ⟨b, off, none⟩ → w.heap.size + 1 < b from fun b off e => by have := hA b off e; omega)
  have HB := Lib.hid (show ∀ b off, Bq = some ⟨b, off, none⟩ → w.heap.size + 1 < b from fun b off e => by have := hB b off e; omega)
  clear hN hL hs2 hk2 hb1 hy0 cw0_0 fw0_0 cw0_1 fw0_1 hA hB hAl
  obtain ⟨X, code, hR⟩ : ∃ X code, lineR N l = (X, code) := ⟨_, _, rfl⟩
  have HR := Lib.hid hR
  clear hR
  go_wp2_with fail
  refine (spec_LinepackOf _ _ _ _ _ _ _ _ N l _ (HN.out.below (by (repeat' (first | (with_reducible exact Below.refl _ _) | (with_reducible assumption) | (with_reducible refine Below.alloc ?_ ?_ _) | (with_reducible refine Below.drew ?_) | (with_reducible refine Below.drewN' ?_ _) | (with_reducible refine Below.setCell ?_ ?_ _) | (refine Below.via ?_ (by with_reducible assumption) ?_) | (with_reducible refine Below.via ?_ (Wd.h _) ?_) | go_size)))) rfl rfl (HL.out.below (by (repeat' (first | (with_reducible exact Below.refl _ _) | (with_reducible assumption) | (with_reducible refine Below.alloc ?_ ?_ _) | (with_reducible refine Below.drew ?_) | (with_reducible refine Below.drewN' ?_ _) | (with_reducible refine Below.setCell ?_ ?_ _) | (refine Below.via ?_ (by with_reducible assumption) ?_) | (with_reducible refine Below.via ?_ (Wd.h _) ?_) | go_size)))) (by omega)).mono ?_
  rintro e w3 ⟨rfl, hb3⟩
  rw [HR.out]
  have hz3 := hb3.size
  (try simp at hz3)
  have HX1 := Lib.hid ((show Bx (World.alloc w2 _) w2.heap.size [.slice A N.nodes.length c, .slice Bq N.pipes.length d] from bx2 (by simp) (by simp) (by simp) (by simp) (by simp)).below hb3 (by simp))
  have HX0 := Lib.hid (HX0.out.below (show Below w2.heap.size w2 w3 by (repeat' (first | (with_reducible exact Below.refl _ _) | (with_reducible assumption) | (with_reducible refine Below.alloc ?_ ?_ _) | (with_reducible refine Below.drew ?_) | (with_reducible refine Below.drewN' ?_ _) | (with_reducible refine Below.setCell ?_ ?_ _) | (refine Below.via ?_ (by with_reducible assumption) ?_) | (with_reducible refine Below.via ?_ (Wd.h _) ?_) | go_size))) HX0.out.lt)
  have HS3 := Lib.hid (HS2.out.below (show Below w2.heap.size w2 w3 by (repeat' (first | (with_reducible exact Below.refl _ _) | (with_reducible assumption) | (with_reducible refine Below.alloc ?_ ?_ _) | (with_reducible refine Below.drew ?_) | (with_reducible refine Below.drewN' ?_ _) | (with_reducible refine Below.setCell ?_ ?_ _) | (refine Below.via ?_ (by with_reducible assumption) ?_) | (with_reducible refine Below.via ?_ (Wd.h _) ?_) | go_size))))
  have HB3 := Lib.hid (show Below w.heap.size w w3 by have h1 := HB2.out; (repeat' (first | (with_reducible exact Below.refl _ _) | (with_reducible assumption) | (with_reducible refine Below.alloc ?_ ?_ _) | (with_reducible refine Below.drew ?_) | (with_reducible refine Below.drewN' ?_ _) | (with_reducible refine Below.setCell ?_ ?_ _) | (refine Below.via ?_ (by with_reducible assumption) ?_) | (with_reducible refine Below.via ?_ (Wd.h _) ?_) | go_size)))
  have HN3 := Lib.hid (HN.out.below (show Below w2.heap.size w2 w3 by (repeat' (first | (with_reducible exact Below.refl _ _) | (with_reducible assumption) | (with_reducible refine Below.alloc ?_ ?_ _) | (with_reducible refine Below.drew ?_) | (with_reducible refine Below.drewN' ?_ _) | (with_reducible refine Below.setCell ?_ ?_ _) | (refine Below.via ?_ (by with_reducible assumption) ?_) | (with_reducible refine Below.via ?_ (Wd.h _) ?_) | go_size))))
  have hl3 := HX1.out.lt
  clear hb3
  by_cases e0 : code = 0
  case' neg =>
    have b1 : (code != 0) = true := by simp [e0]
    go_wp2_with fail
  case' pos =>
    subst e0
    go_wp2_with fail
    refine (spec_l01Next (w.heap.size + 1) _ _ HS3.out (by omega)).mono ?_
    rintro e w3 ⟨z, rfl, za, _, zb, hs3, hk3⟩
    have HX1 := Lib.hid (HX1.out.keep hk3 (by omega))
    have HX0 := Lib.hid (HX0.out.keep hk3 (by omega))
    have HB3 := Lib.hid (show Below w.heap.size w w3 from hk3.below HB3.out (by omega) (by intro k hq; (try simp only at hq); omega))
    have HN3 := Lib.hid (HN3.out.keep hk3 (fun b off e q => by have := HA.out b off e; omega) (fun b off e q => by have := HB.out b off e; omega))
    have HS3 := Lib.hid hs3
    have hl3 := HX1.out.lt
    clear hs3 hk3
    by_cases e0 : z = 0
    case' pos =>
      subst e0
      go_wp2_with fail
    case' neg =>
      have b0 : (z == 0) = false := by simpa using e0
      have hbX := HX1.out
      have hb0 := HX0.out
      have hy7 := hbX.lt; have cw7_0 := hbX.cell 0 rfl; have fw7_0 := hbX.frozen 0 rfl; have cw7_1 := hbX.cell 1 rfl; have fw7_1 := hbX.frozen 1 rfl
      have hy0 := hb0.lt; have cw0_0 := hb0.cell 0 rfl; have fw0_0 := hb0.frozen 0 rfl; have cw0_1 := hb0.cell 1 rfl; have fw0_1 := hb0.frozen 1 rfl
      clear hbX hb0
      go_wp2
      refine bodyPost_ret (by simp [results, Try.results14, go_sem, cw0_0, cw0_1]; try rfl) rfl ?_
      have hk : Keep (· = w.heap.size) w3 ((w3.setCell ⟨w.heap.size, 0, none⟩ (.slice A N.nodes.length c)).setCell ⟨w.heap.size, 1, none⟩ (.slice Bq N.pipes.length d)) := ((Keep.refl _ _).one _).one _
      exact ⟨A, Bq, c, d, N, X, rfl, hnc, HN3.out.keep hk (fun b off e q => by have := HA.out b off e; omega) (fun b off e q => by have := HB.out b off e; omega), by have h1 := HB3.out; (repeat' (first | (with_reducible exact Below.refl _ _) | (with_reducible assumption) | (with_reducible refine Below.alloc ?_ ?_ _) | (with_reducible refine Below.drew ?_) | (with_reducible refine Below.drewN' ?_ _) | (with_reducible refine Below.setCell ?_ ?_ _) | (refine Below.via ?_ (by with_reducible assumption) ?_) | (with_reducible refine Below.via ?_ (Wd.h _) ?_) | go_size))⟩
  all_goals
    refine wp_region_tb (R := Zr) [some 29, some 30, some 31, some 32, some 33, some 34, none, some 3] _ (by intro u; simp only [frs, Act.put, List.setIfInBounds_toArray, List.set_cons_zero, List.set_cons_succ, Nat.reduceAdd]; exact rfl) (fun ρ j => ([.agg #[.slice A N.nodes.length c, .slice Bq N.pipes.length d], .slice (some ⟨ρ.b 1, 0, none⟩) 4 4, .pointer (some ⟨w.heap.size + 1, 0, none⟩), .int .i64 (ρ.r 3), .pointer (some ⟨ρ.b 1, (ρ.r 3).toNat, none⟩), .int .i64 ((ρ.c 1).getD (ρ.r 3).toNat 0), undef, .int .i64 ((ρ.c 1).getD (ρ.r 3).toNat 0)] : List Value).getD j undef) (WZ (w.heap.size + 1) (fun k => k = w.heap.size) [(3, 4)] [(1, 4, -1, 1000000000000)] 6 (fun wt => Bx wt w.heap.size [.slice none 0 0, .slice none 0 0] ∧ Bx wt w2.heap.size [.slice A N.nodes.length c, .slice Bq N.pipes.length d]) (fun _ wt => Bx wt w.heap.size [.slice A N.nodes.length c, .slice Bq N.pipes.length d]) w3) (by kernel_rfl) (by kernel_rfl) Zr.zero (WZ.start (Keep.of_below _ (Below.drew (Below.refl _ _))) (HS3.out.below (Below.drew (Below.refl _ _))) ⟨HX0.out.below (Below.drew (Below.refl w3.heap.size _)) (by omega), HX1.out.below (Below.drew (Below.refl w3.heap.size _)) hl3⟩) ?_ ?_
    · intro ii hii L ρ u wx hl hp hc hu hn hW
      have hii : ii < 8 := hii
      have HNo := Lib.hid hn
      clear hn
      have hii : ii = 0 ∨ ii = 1 ∨ ii = 2 ∨ ii = 3 ∨ ii = 4 ∨ ii = 5 ∨ ii = 6 ∨ ii = 7 := by omega
      rcases hii with rfl | rfl | rfl | rfl | rfl | rfl | rfl | rfl
      · have nks : L 6 = false := no_later hc hl (by kernel_rfl)
        have xx0 := (hW.t0 nks).2.cell 0 rfl
        have xx1 := (hW.t0 nks).2.cell 1 rfl
        refine wpOp_go (E := True) rfl rfl (fun K' hK => ?_)
        go_simp
        refine hK.out _ _ ⟨ρ, (by simp only [put]; rfl), fun _ _ => rfl, hW.pure rfl rfl (by omega)⟩
      · refine wpOp_go (E := True) rfl rfl (fun K' hK => ?_)
        go_simp
        generalize hW5 : World.alloc wx _ = w5
        have hb5 : Below wx.heap.size wx w5 := by rw [← hW5]; (repeat' (first | (with_reducible exact Below.refl _ _) | (with_reducible assumption) | (with_reducible refine Below.alloc ?_ ?_ _) | (with_reducible refine Below.drew ?_) | (with_reducible refine Below.drewN' ?_ _) | (with_reducible refine Below.setCell ?_ ?_ _) | (refine Below.via ?_ (by with_reducible assumption) ?_) | (with_reducible refine Below.via ?_ (Wd.h _) ?_) | go_size))
        have hx5 : Bx w5 wx.heap.size (([-1, 0, 1, 1000000000000] : List Int).map iV) := by rw [← hW5]; exact bx4 (by simp) (by simp) (by simp) (by simp) (by simp) (by simp) (by simp) (by simp) (by simp)
        clear hW5
        refine hK.out _ _ ⟨ρ.made 1 wx.heap.size [-1, 0, 1, 1000000000000], (by simp only [put]; rfl), fun j hj => by
            have n4 : L 4 = false := no_later hc hl (by kernel_rfl)
            have n5 : L 5 = false := no_later hc n4 (by kernel_rfl)
            have n7 : L 7 = false := no_later hc n5 (by kernel_rfl)
            match j, hj with
            | 0, _ => rfl
            | 1, hj => rw [hl] at hj; cases hj
            | 2, _ => rfl
            | 3, _ => rfl
            | 4, hj => rw [n4] at hj; cases hj
            | 5, hj => rw [n5] at hj; cases hj
            | 6, _ => rfl
            | 7, hj => rw [n7] at hj; cases hj
            | _ + 8, _ => rfl, hW.made rfl (by omega) hb5 (fun ⟨h1, h2⟩ => ⟨h1.below hb5 h1.lt, h2.below hb5 h2.lt⟩) (fun h1 => h1.below hb5 h1.lt) hx5 (by intro k lo hi hm; simp at hm; obtain ⟨rfl, rfl, rfl⟩ := hm; refine ⟨rfl, fun x hx => ?_⟩; simp at hx; omega)⟩
      · refine wpOp_go (E := True) rfl rfl (fun K' hK => ?_)
        go_simp
        refine hK.out _ _ ⟨ρ, (by simp only [put]; rfl), fun _ _ => rfl, hW.pure rfl rfl (by omega)⟩
      · have e2 : u 2 = .pointer (some ⟨w.heap.size + 1, 0, none⟩) := hu 2 (all_of hp (by kernel_rfl))
        have nks : L 6 = false := no_later hc hl (by kernel_rfl)
        refine wpOp_go (E := True) rfl rfl (fun K' hK => ?_)
        go_simp
        go_at_call 33
        refine (spec_l01Next _ _ _ (hW.sr nks) (by omega)).mono ?_
        rintro e' w5 ⟨r, rfl, ra, _, rb, hs5, hk5⟩
        have rc := rb (by omega)
        refine hK.out _ _ ⟨ρ.drawn 3 r, (by simp only [put, e2]; rfl), fun j hj => by
            have n4 : L 4 = false := no_later hc hl (by kernel_rfl)
            have n5 : L 5 = false := no_later hc n4 (by kernel_rfl)
            have n7 : L 7 = false := no_later hc n5 (by kernel_rfl)
            match j, hj with
            | 0, _ => rfl
            | 1, _ => rfl
            | 2, _ => rfl
            | 3, hj => rw [hl] at hj; cases hj
            | 4, hj => rw [n4] at hj; cases hj
            | 5, hj => rw [n5] at hj; cases hj
            | 6, _ => rfl
            | 7, hj => rw [n7] at hj; cases hj
            | _ + 8, _ => rfl, hW.call rfl (by omega) nks (by omega) hk5 hs5 (fun ⟨h1, h2⟩ => ⟨h1.keep hk5 (by omega), h2.keep hk5 (by omega)⟩) (by intro n hn; simp at hn; omega)⟩
      · have e1 : u 1 = .slice (some ⟨ρ.b 1, 0, none⟩) 4 4 := hu 1 (all_of hp (by kernel_rfl))
        have e3 : u 3 = .int .i64 (ρ.r 3) := hu 3 (all_of hp (by kernel_rfl))
        obtain ⟨ra3, rb3⟩ := hW.dr 3 (4) (by simp) (all_of hp (by kernel_rfl))
        obtain ⟨pk1, -, -, -, -⟩ := hW.pick (i := 1) (j := 3) (k := 4) (lo := -1) (hi := 1000000000000) (n := 4) (by simp) (by simp) (by omega) (all_of hp (by kernel_rfl)) (all_of hp (by kernel_rfl))
        refine wpOp_go (E := True) rfl rfl (fun K' hK => ?_)
        go_simp
        refine hK.out _ _ ⟨ρ, (by simp only [put, e1, e3]; rfl), fun _ _ => rfl, hW.pure rfl rfl (by omega)⟩
      · have e4 : u 4 = .pointer (some ⟨ρ.b 1, (ρ.r 3).toNat, none⟩) := hu 4 (all_of hp (by kernel_rfl))
        obtain ⟨ra3, rb3⟩ := hW.dr 3 (4) (by simp) (all_of (hc 4 (all_of hp (by kernel_rfl))) (by kernel_rfl))
        obtain ⟨pk1, -, pk3, -, -⟩ := hW.pick (i := 1) (j := 3) (k := 4) (lo := -1) (hi := 1000000000000) (n := 4) (by simp) (by simp) (by omega) (all_of (hc 4 (all_of hp (by kernel_rfl))) (by kernel_rfl)) (all_of (hc 4 (all_of hp (by kernel_rfl))) (by kernel_rfl))
        have pk4 := (hW.md 1 4 (-1) (1000000000000) (by simp) (all_of (hc 4 (all_of hp (by kernel_rfl))) (by kernel_rfl))).2.cell (ρ.r 3).toNat (by rw [List.getElem?_map, pk3]; rfl)
        clear pk3
        refine wpOp_go (E := True) rfl rfl (fun K' hK => ?_)
        go_simp
        refine hK.out _ _ ⟨ρ, (by simp only [put, e4]; rfl), fun _ _ => rfl, hW.pure rfl rfl (by omega)⟩
      · have e0 : u 0 = .agg #[.slice A N.nodes.length c, .slice Bq N.pipes.length d] := hu 0 (all_of hp (by kernel_rfl))
        have hb0 := (hW.t0 hl).1
        have hyX := hb0.lt
        have xx0 := hb0.cell 0 rfl
        have xx1 := hb0.cell 1 rfl
        have xf0 := hb0.frozen 0 rfl
        have xf1 := hb0.frozen 1 rfl
        refine wpOp_go (E := True) rfl rfl (fun K' hK => ?_)
        go_simp
        refine hK.out _ _ ⟨ρ, (by simp only [put, e0]; rfl), fun _ _ => rfl, hW.store rfl rfl (by intro k q; omega) ((((Keep.refl (· = w.heap.size) _).one _).one _).wide fun k q => Or.inr q) (bx2 (by simp; omega) (by simp [go_sem, xx0, xx1]) (by simp [go_sem, xf0]) (by simp [go_sem, xx0, xx1]) (by simp [go_sem, xf1]))⟩
      · have e5 : u 5 = .int .i64 ((ρ.c 1).getD (ρ.r 3).toNat 0) := hu 5 (all_of hp (by kernel_rfl))
        obtain ⟨ra3, rb3⟩ := hW.dr 3 (4) (by simp) (all_of (hc 4 (all_of (hc 5 (all_of hp (by kernel_rfl))) (by kernel_rfl))) (by kernel_rfl))
        refine wpOp_go (E := True) rfl rfl (fun K' hK => ?_)
        go_simp
        refine hK.out _ _ ⟨ρ, (by simp only [put, e5]; rfl), fun _ _ => rfl, hW.pure rfl rfl (by omega)⟩
    · intro L ρ u wx hall hu hW
      have hb0 := hW.t1 (hall 6 (by show 6 < 8; omega))
      have cw0_0 := hb0.cell 0 rfl
      have cw0_1 := hb0.cell 1 rfl
      have e7 : u 7 = .int .i64 ((ρ.c 1).getD (ρ.r 3).toNat 0) := hu 7 (by show 7 < 8; omega)
      have hkp := hW.kp
      clear hu hall hW hb0
      go_wp2
      refine bodyPost_ret (by simp [results, Try.results14, go_sem, cw0_0, cw0_1]; try rfl) rfl ?_
      exact ⟨A, Bq, c, d, N, (ρ.c 1).getD (ρ.r 3).toNat 0, by simp [e7, netV], hnc, HN3.out.keep hkp (fun b off e q => by have := HA.out b off e; omega) (fun b off e q => by have := HB.out b off e; omega), hkp.below HB3.out (by omega) (by intro k hq; omega)⟩
end Go.Proofs.Ytkagnkecgkmpcaa
