/- Drawn moves and fillings of stores. -/
import Derived.Test.YtioboahhiklolaaDs
import Derived.Test.YtioboahhiklolaaLm
namespace Go.Proofs.Ytioboahhiklolaa
set_option linter.unusedVariables false
set_option linter.unusedSimpArgs false
open Go.RowKit
set_option maxRecDepth 100000 in
set_option maxHeartbeats 8000000 in
theorem spec_DrawMoveStore (A : Option Addr) (c : Nat) (l : List Int) (w : World) (h : BytesIn w A l) (hl : l.length ≤ 4096) :
    Calls Try.prog 6 #[.slice A l.length c] w fun e w' => ∃ (s : Sv) (a : Int), e = .returned (.tuple #[stV s.lo s.hi s.now s.i s.o, .int .i64 a]) ∧ s.sm ∧ -2000000000 ≤ a ∧ a ≤ 2000000000 ∧ Below w.heap.size w w' := by
  have HI := Lib.hid h
  clear h
  go_enter Try.func6, Try.ntmps6
  go_wp2_with fail
  refine (spec_l01From A c l _ (HI.out.below (by (repeat' (first | (with_reducible exact Below.refl _ _) | (with_reducible assumption) | (with_reducible refine Below.alloc ?_ ?_ _) | (with_reducible refine Below.drew ?_) | (with_reducible refine Below.drewN' ?_ _) | (with_reducible refine Below.setCell ?_ ?_ _) | (refine Below.via ?_ (by with_reducible assumption) ?_) | (with_reducible refine Below.via ?_ (Wd.h _) ?_) | go_size)))) hl).mono ?_
  rintro e w1 ⟨rfl, hs1, hb1⟩
  have hs1 : Src w1 (w.heap.size + 1) := by simpa using hs1
  have HS1 := Lib.hid hs1
  clear hs1
  (obtain ⟨hcn, hfn⟩ := bcell hb1; have hz1 := hb1.size; (try simp at hz1); have Ncw0_0 := hcn (w.heap.size) (0) (by first | omega | (simp; done) | (simp; omega)); have Nfw0_0 := hfn (w.heap.size) (0) (by first | omega | (simp; done) | (simp; omega)); have Nhy0 : w.heap.size < w1.heap.size := (by omega); have Ncw0_1 := hcn (w.heap.size) (1) (by first | omega | (simp; done) | (simp; omega)); have Nfw0_1 := hfn (w.heap.size) (1) (by first | omega | (simp; done) | (simp; omega)); have Ncw0_2 := hcn (w.heap.size) (2) (by first | omega | (simp; done) | (simp; omega)); have Nfw0_2 := hfn (w.heap.size) (2) (by first | omega | (simp; done) | (simp; omega)); have Ncw0_3 := hcn (w.heap.size) (3) (by first | omega | (simp; done) | (simp; omega)); have Nfw0_3 := hfn (w.heap.size) (3) (by first | omega | (simp; done) | (simp; omega)); have Ncw0_4 := hcn (w.heap.size) (4) (by first | omega | (simp; done) | (simp; omega)); have Nfw0_4 := hfn (w.heap.size) (4) (by first | omega | (simp; done) | (simp; omega)); simp [go_sem] at Ncw0_0 Nfw0_0 Ncw0_1 Nfw0_1 Ncw0_2 Nfw0_2 Ncw0_3 Nfw0_3 Ncw0_4 Nfw0_4; clear hcn hfn; have cw0_0 := Ncw0_0; have fw0_0 := Nfw0_0; have cw0_1 := Ncw0_1; have fw0_1 := Nfw0_1; have cw0_2 := Ncw0_2; have fw0_2 := Nfw0_2; have cw0_3 := Ncw0_3; have fw0_3 := Nfw0_3; have cw0_4 := Ncw0_4; have fw0_4 := Nfw0_4; have hy0 := Nhy0; clear Ncw0_0 Nfw0_0 Ncw0_1 Nfw0_1 Ncw0_2 Nfw0_2 Ncw0_3 Nfw0_3 Ncw0_4 Nfw0_4 Nhy0)
  go_wp2_with fail
  refine (spec_l17Draw (w.heap.size + 1) _ (HS1.out.below (by (repeat' (first | (with_reducible exact Below.refl _ _) | (with_reducible assumption) | (with_reducible refine Below.alloc ?_ ?_ _) | (with_reducible refine Below.drew ?_) | (with_reducible refine Below.drewN' ?_ _) | (with_reducible refine Below.setCell ?_ ?_ _) | (refine Below.via ?_ (by with_reducible assumption) ?_) | (with_reducible refine Below.via ?_ (Wd.h _) ?_) | go_size))))).mono ?_
  rintro e w2 ⟨⟨lo, hi, now, i, o⟩, rfl, hsm, hs2, hk2⟩
  have HS2 := Lib.hid hs2
  have HM := Lib.hid hsm
  have HB2 := Lib.hid (show Below w.heap.size w w2 from hk2.below (by (repeat' (first | (with_reducible exact Below.refl _ _) | (with_reducible assumption) | (with_reducible refine Below.alloc ?_ ?_ _) | (with_reducible refine Below.drew ?_) | (with_reducible refine Below.drewN' ?_ _) | (with_reducible refine Below.setCell ?_ ?_ _) | (refine Below.via ?_ (by with_reducible assumption) ?_) | (with_reducible refine Below.via ?_ (Wd.h _) ?_) | go_size))) (by go_size) (by intro k hq; (try simp only at hq); omega))
  clear hs2 hb1
  (have hz2 := hk2.size; (try simp at hz2); have Ncw0_0 := hk2.cell (w.heap.size) (0) (by first | omega | (simp; done) | (simp; omega)) (by intro hq; (try simp only at hq); omega); have Nfw0_0 := hk2.frozen (w.heap.size) (0) (by first | omega | (simp; done) | (simp; omega)) (by intro hq; (try simp only at hq); omega); have Nhy0 : w.heap.size < w2.heap.size := (by omega); have Ncw0_1 := hk2.cell (w.heap.size) (1) (by first | omega | (simp; done) | (simp; omega)) (by intro hq; (try simp only at hq); omega); have Nfw0_1 := hk2.frozen (w.heap.size) (1) (by first | omega | (simp; done) | (simp; omega)) (by intro hq; (try simp only at hq); omega); have Ncw0_2 := hk2.cell (w.heap.size) (2) (by first | omega | (simp; done) | (simp; omega)) (by intro hq; (try simp only at hq); omega); have Nfw0_2 := hk2.frozen (w.heap.size) (2) (by first | omega | (simp; done) | (simp; omega)) (by intro hq; (try simp only at hq); omega); have Ncw0_3 := hk2.cell (w.heap.size) (3) (by first | omega | (simp; done) | (simp; omega)) (by intro hq; (try simp only at hq); omega); have Nfw0_3 := hk2.frozen (w.heap.size) (3) (by first | omega | (simp; done) | (simp; omega)) (by intro hq; (try simp only at hq); omega); have Ncw0_4 := hk2.cell (w.heap.size) (4) (by first | omega | (simp; done) | (simp; omega)) (by intro hq; (try simp only at hq); omega); have Nfw0_4 := hk2.frozen (w.heap.size) (4) (by first | omega | (simp; done) | (simp; omega)) (by intro hq; (try simp only at hq); omega); simp [go_sem, cw0_0, fw0_0, cw0_1, fw0_1, cw0_2, fw0_2, cw0_3, fw0_3, cw0_4, fw0_4, hy0] at Ncw0_0 Nfw0_0 Ncw0_1 Nfw0_1 Ncw0_2 Nfw0_2 Ncw0_3 Nfw0_3 Ncw0_4 Nfw0_4; clear cw0_0 fw0_0 cw0_1 fw0_1 cw0_2 fw0_2 cw0_3 fw0_3 cw0_4 fw0_4 hy0; have cw0_0 := Ncw0_0; have fw0_0 := Nfw0_0; have cw0_1 := Ncw0_1; have fw0_1 := Nfw0_1; have cw0_2 := Ncw0_2; have fw0_2 := Nfw0_2; have cw0_3 := Ncw0_3; have fw0_3 := Nfw0_3; have cw0_4 := Ncw0_4; have fw0_4 := Nfw0_4; have hy0 := Nhy0; clear Ncw0_0 Nfw0_0 Ncw0_1 Nfw0_1 Ncw0_2 Nfw0_2 Ncw0_3 Nfw0_3 Ncw0_4 Nfw0_4 Nhy0)
  clear hk2
  have hp2 := HS2.out.lt
  obtain ⟨⟨lo1, lo2⟩, ⟨hi1, hi2⟩, ⟨nw1, nw2⟩, ⟨i1, i2⟩, ⟨o1, o2⟩⟩ := hsm
  dsimp only at lo1 lo2 hi1 hi2 nw1 nw2 i1 i2 o1 o2
  go_wp2_with fail
  
  refine (spec_StoreLimits _ _ _ _ _ _).mono ?_
  rintro e w3 ⟨rfl, hb3⟩
  have HS3 := Lib.hid (HS2.out.below (show Below w2.heap.size w2 w3 by (repeat' (first | (with_reducible exact Below.refl _ _) | (with_reducible assumption) | (with_reducible refine Below.alloc ?_ ?_ _) | (with_reducible refine Below.drew ?_) | (with_reducible refine Below.drewN' ?_ _) | (with_reducible refine Below.setCell ?_ ?_ _) | (refine Below.via ?_ (by with_reducible assumption) ?_) | (with_reducible refine Below.via ?_ (Wd.h _) ?_) | go_size))))
  have HB3 := Lib.hid (show Below w.heap.size w w3 by have h1 := HB2.out; (repeat' (first | (with_reducible exact Below.refl _ _) | (with_reducible assumption) | (with_reducible refine Below.alloc ?_ ?_ _) | (with_reducible refine Below.drew ?_) | (with_reducible refine Below.drewN' ?_ _) | (with_reducible refine Below.setCell ?_ ?_ _) | (refine Below.via ?_ (by with_reducible assumption) ?_) | (with_reducible refine Below.via ?_ (Wd.h _) ?_) | go_size)))
  (obtain ⟨hcn, hfn⟩ := bcell hb3; have hz3 := hb3.size; (try simp at hz3); have Ncw0_0 := hcn (w.heap.size) (0) (by first | omega | (simp; done) | (simp; omega)); have Nfw0_0 := hfn (w.heap.size) (0) (by first | omega | (simp; done) | (simp; omega)); have Nhy0 : w.heap.size < w3.heap.size := (by omega); have Ncw0_1 := hcn (w.heap.size) (1) (by first | omega | (simp; done) | (simp; omega)); have Nfw0_1 := hfn (w.heap.size) (1) (by first | omega | (simp; done) | (simp; omega)); have Ncw0_2 := hcn (w.heap.size) (2) (by first | omega | (simp; done) | (simp; omega)); have Nfw0_2 := hfn (w.heap.size) (2) (by first | omega | (simp; done) | (simp; omega)); have Ncw0_3 := hcn (w.heap.size) (3) (by first | omega | (simp; done) | (simp; omega)); have Nfw0_3 := hfn (w.heap.size) (3) (by first | omega | (simp; done) | (simp; omega)); have Ncw0_4 := hcn (w.heap.size) (4) (by first | omega | (simp; done) | (simp; omega)); have Nfw0_4 := hfn (w.heap.size) (4) (by first | omega | (simp; done) | (simp; omega)); have Nx_0 := hcn (w2.heap.size) (0) (by first | omega | (simp; done) | (simp; omega)); have Nx_0f := hfn (w2.heap.size) (0) (by first | omega | (simp; done) | (simp; omega)); have Nhy_x : w2.heap.size < w3.heap.size := (by omega); have Nx_1 := hcn (w2.heap.size) (1) (by first | omega | (simp; done) | (simp; omega)); have Nx_1f := hfn (w2.heap.size) (1) (by first | omega | (simp; done) | (simp; omega)); have Nx_2 := hcn (w2.heap.size) (2) (by first | omega | (simp; done) | (simp; omega)); have Nx_2f := hfn (w2.heap.size) (2) (by first | omega | (simp; done) | (simp; omega)); have Nx_3 := hcn (w2.heap.size) (3) (by first | omega | (simp; done) | (simp; omega)); have Nx_3f := hfn (w2.heap.size) (3) (by first | omega | (simp; done) | (simp; omega)); have Nx_4 := hcn (w2.heap.size) (4) (by first | omega | (simp; done) | (simp; omega)); have Nx_4f := hfn (w2.heap.size) (4) (by first | omega | (simp; done) | (simp; omega)); simp [go_sem, cw0_0, fw0_0, cw0_1, fw0_1, cw0_2, fw0_2, cw0_3, fw0_3, cw0_4, fw0_4, hy0] at Ncw0_0 Nfw0_0 Ncw0_1 Nfw0_1 Ncw0_2 Nfw0_2 Ncw0_3 Nfw0_3 Ncw0_4 Nfw0_4 Nx_0 Nx_0f Nx_1 Nx_1f Nx_2 Nx_2f Nx_3 Nx_3f Nx_4 Nx_4f; clear cw0_0 fw0_0 cw0_1 fw0_1 cw0_2 fw0_2 cw0_3 fw0_3 cw0_4 fw0_4 hy0; clear hcn hfn; have cw0_0 := Ncw0_0; have fw0_0 := Nfw0_0; have cw0_1 := Ncw0_1; have fw0_1 := Nfw0_1; have cw0_2 := Ncw0_2; have fw0_2 := Nfw0_2; have cw0_3 := Ncw0_3; have fw0_3 := Nfw0_3; have cw0_4 := Ncw0_4; have fw0_4 := Nfw0_4; have x_0 := Nx_0; have x_0f := Nx_0f; have x_1 := Nx_1; have x_1f := Nx_1f; have x_2 := Nx_2; have x_2f := Nx_2f; have x_3 := Nx_3; have x_3f := Nx_3f; have x_4 := Nx_4; have x_4f := Nx_4f; have hy0 := Nhy0; have hy_x := Nhy_x; clear Ncw0_0 Nfw0_0 Ncw0_1 Nfw0_1 Ncw0_2 Nfw0_2 Ncw0_3 Nfw0_3 Ncw0_4 Nfw0_4 Nx_0 Nx_0f Nx_1 Nx_1f Nx_2 Nx_2f Nx_3 Nx_3f Nx_4 Nx_4f Nhy0 Nhy_x)
  have HS4 := HS3
  have HB4 := HB3
  cases hs : storeB lo hi now i o
  · have hc : limC false = 1 := rfl
    clear hb3
    go_wp2_with fail
    refine wp_region_tab (R := Nat × Int) (fun u => ⟨#[.slice A l.length c, undef, .pointer (some ⟨w.heap.size, 0, none⟩), u 5, .pointer (some ⟨w.heap.size + 1, 0, none⟩), .pointer (some ⟨w2.heap.size, 0, none⟩), .int .i64 (limA lo hi now i false), .int .i64 (limB lo hi now o false), .int .i64 (1), .slice A l.length c, .pointer (some ⟨w.heap.size + 1, 0, none⟩), .pointer (some ⟨w.heap.size + 1, 0, none⟩), stV lo hi now i o, .tuple #[.int .i64 (limA lo hi now i false), .int .i64 (limB lo hi now o false), .int .i64 (1)], .agg #[.int .i64 (lo), .int .i64 (hi), .int .i64 (now), .int .i64 (i), .int .i64 (o)], .tuple #[.int .i64 (limA lo hi now i false), .int .i64 (limB lo hi now o false), .int .i64 (1)], .int .i64 (limA lo hi now i false), .int .i64 (limB lo hi now o false), .int .i64 (1), .int .i64 (1), .bool true, .bool true, undef, undef, undef, .bool true, u 0, u 1, u 2, u 3, undef, undef, undef, undef, undef, undef, undef, undef, undef, undef, undef, undef, undef, undef], []⟩) (fun ρ j => ([.agg #[.int .i64 (lo), .int .i64 (hi), .int .i64 (now), .int .i64 (i), .int .i64 (o)], .pointer (some ⟨w.heap.size + 1, 0, none⟩), .int .i64 (ρ.2), .int .i64 (ρ.2 - 60), undef, .int .i64 (ρ.2 - 60)] : List Value).getD j undef) (WS 99 2 4 (w.heap.size + 1) (w.heap.size) 120 [.int .i64 (0), .int .i64 (0), .int .i64 (0), .int .i64 (0), .int .i64 (0)] (fun r => [.int .i64 (lo), .int .i64 (hi), .int .i64 (now), .int .i64 (i), .int .i64 (o)]) [] w3) (by kernel_rfl) (by kernel_rfl) (fun j => if j = 5 then .int .i64 (0) else undef) rfl (0, 0) (WS.start (Keep.of_below _ (Below.drew (Below.refl _ _))) (HS3.out.below (Below.drew (Below.refl _ _))) (((bx5 (by first | exact hy0 | go_size) (by first | (with_reducible exact cw0_0) | go_cell_look | (simp [go_sem, hy0, cw0_0, fw0_0, cw0_1, fw0_1, cw0_2, fw0_2, cw0_3, fw0_3, cw0_4, fw0_4]; done) | (simp [go_sem]; done)) (by first | (with_reducible exact fw0_0) | (simp only [World.frozen?_setCell, fw0_0]; done) | (simp [go_sem, hy0, cw0_0, fw0_0, cw0_1, fw0_1, cw0_2, fw0_2, cw0_3, fw0_3, cw0_4, fw0_4]; done) | (simp [go_sem]; done)) (by first | (with_reducible exact cw0_1) | go_cell_look | (simp [go_sem, hy0, cw0_0, fw0_0, cw0_1, fw0_1, cw0_2, fw0_2, cw0_3, fw0_3, cw0_4, fw0_4]; done) | (simp [go_sem]; done)) (by first | (with_reducible exact fw0_1) | (simp only [World.frozen?_setCell, fw0_1]; done) | (simp [go_sem, hy0, cw0_0, fw0_0, cw0_1, fw0_1, cw0_2, fw0_2, cw0_3, fw0_3, cw0_4, fw0_4]; done) | (simp [go_sem]; done)) (by first | (with_reducible exact cw0_2) | go_cell_look | (simp [go_sem, hy0, cw0_0, fw0_0, cw0_1, fw0_1, cw0_2, fw0_2, cw0_3, fw0_3, cw0_4, fw0_4]; done) | (simp [go_sem]; done)) (by first | (with_reducible exact fw0_2) | (simp only [World.frozen?_setCell, fw0_2]; done) | (simp [go_sem, hy0, cw0_0, fw0_0, cw0_1, fw0_1, cw0_2, fw0_2, cw0_3, fw0_3, cw0_4, fw0_4]; done) | (simp [go_sem]; done)) (by first | (with_reducible exact cw0_3) | go_cell_look | (simp [go_sem, hy0, cw0_0, fw0_0, cw0_1, fw0_1, cw0_2, fw0_2, cw0_3, fw0_3, cw0_4, fw0_4]; done) | (simp [go_sem]; done)) (by first | (with_reducible exact fw0_3) | (simp only [World.frozen?_setCell, fw0_3]; done) | (simp [go_sem, hy0, cw0_0, fw0_0, cw0_1, fw0_1, cw0_2, fw0_2, cw0_3, fw0_3, cw0_4, fw0_4]; done) | (simp [go_sem]; done)) (by first | (with_reducible exact cw0_4) | go_cell_look | (simp [go_sem, hy0, cw0_0, fw0_0, cw0_1, fw0_1, cw0_2, fw0_2, cw0_3, fw0_3, cw0_4, fw0_4]; done) | (simp [go_sem]; done)) (by first | (with_reducible exact fw0_4) | (simp only [World.frozen?_setCell, fw0_4]; done) | (simp [go_sem, hy0, cw0_0, fw0_0, cw0_1, fw0_1, cw0_2, fw0_2, cw0_3, fw0_3, cw0_4, fw0_4]; done) | (simp [go_sem]; done))) : Bx w3 w.heap.size [.int .i64 (0), .int .i64 (0), .int .i64 (0), .int .i64 (0), .int .i64 (0)]).below (Below.drew (Below.refl _ _)) (by omega))) ?_ ?_
    · intro ii hii L ρ u wx hl hp hc hu hW
      have hii : ii < 6 := hii
      have hkp := hW.kp
      have hii : ii = 0 ∨ ii = 1 ∨ ii = 2 ∨ ii = 3 ∨ ii = 4 ∨ ii = 5 := by omega
      rcases hii with rfl | rfl | rfl | rfl | rfl | rfl
      · have yy0 := (hkp.cell w2.heap.size 0 (by omega) (by omega)).trans x_0
        have yy1 := (hkp.cell w2.heap.size 1 (by omega) (by omega)).trans x_1
        have yy2 := (hkp.cell w2.heap.size 2 (by omega) (by omega)).trans x_2
        have yy3 := (hkp.cell w2.heap.size 3 (by omega) (by omega)).trans x_3
        have yy4 := (hkp.cell w2.heap.size 4 (by omega) (by omega)).trans x_4
        refine wpOp_go (E := True) rfl rfl (fun K' hK => ?_)
        go_simp
        refine hK.out _ _ ⟨ρ, (by simp only [put]; rfl), fun _ _ => rfl, hW.pure (by omega) (by omega) (by omega)⟩
      · refine wpOp_go (E := True) rfl rfl (fun K' hK => ?_)
        go_simp
        refine hK.out _ _ ⟨ρ, (by simp only [put]; rfl), fun _ _ => rfl, hW.pure (by omega) (by omega) (by omega)⟩
      · have hks : L 4 = false := no_later hc hl (by kernel_rfl)
        have e1 : u 1 = .pointer (some ⟨w.heap.size + 1, 0, none⟩) := hu 1 (all_of hp (by kernel_rfl))
        refine wpOp_go (E := True) rfl rfl (fun K' hK => ?_)
        go_simp
        go_at_call 19
        refine (spec_l01Next _ _ _ (hW.s0 hks) (by omega)).mono ?_
        rintro e' w5 ⟨r, rfl, ra, _, rb, hs5, hk5⟩
        have rc := rb (by omega)
        refine hK.out _ _ ⟨(ρ.1, r), (by simp only [put, e1]; rfl), fun j hj => by
              have n3 : L 3 = false := no_later hc hl (by kernel_rfl)
              have n5 : L 5 = false := no_later hc n3 (by kernel_rfl)
              match j, hj with
              | 0, _ => rfl
              | 1, _ => rfl
              | 2, hj => rw [hl] at hj; cases hj
              | 3, hj => rw [n3] at hj; cases hj
              | 4, _ => rfl
              | 5, hj => rw [n5] at hj; cases hj
              | _ + 6, _ => rfl, hW.call (by omega) (by omega) (by omega) (by omega) hks hk5 hs5 ra rc⟩
      · have e2 : u 2 = .int .i64 (ρ.2) := hu 2 (all_of hp (by kernel_rfl))
        obtain ⟨ra, rb⟩ := hW.rr (all_of hp (by kernel_rfl))
        have q2 : IntKind.i64.wrap (ρ.2 - 60) = ρ.2 - 60 := IntWalk.i64_in _ (by omega)
        refine wpOp_go (E := True) rfl rfl (fun K' hK => ?_)
        go_simp
        refine hK.out _ _ ⟨ρ, (by simp only [put, e2]; rfl), fun _ _ => rfl, hW.pure (by omega) (by omega) (by omega)⟩
      · have hks : L 4 = false := hl
        have e0 : u 0 = .agg #[.int .i64 (lo), .int .i64 (hi), .int .i64 (now), .int .i64 (i), .int .i64 (o)] := hu 0 (all_of hp (by kernel_rfl))
        skip
        have hbx := hW.b0 hks
        have xx0 := hbx.cell 0 rfl
        have xx1 := hbx.cell 1 rfl
        have xx2 := hbx.cell 2 rfl
        have xx3 := hbx.cell 3 rfl
        have xx4 := hbx.cell 4 rfl
        have xf0 := hbx.frozen 0 rfl
        have xf1 := hbx.frozen 1 rfl
        have xf2 := hbx.frozen 2 rfl
        have xf3 := hbx.frozen 3 rfl
        have xf4 := hbx.frozen 4 rfl
        have hyX := hbx.lt
        refine wpOp_go (E := True) rfl rfl (fun K' hK => ?_)
        go_simp
        refine hK.out _ _ ⟨ρ, (by simp only [put, e0]; rfl), fun _ _ => rfl, hW.store (by omega) (by omega) hks (by omega) ((((((Keep.refl _ _).one _).one _).one _).one _).one _) (fun z => absurd z (by omega)) (bx5 (by simp; omega) (by simp [go_sem, xx0, xx1, xx2, xx3, xx4]) (by simp [go_sem, xf0]) (by simp [go_sem, xx0, xx1, xx2, xx3, xx4]) (by simp [go_sem, xf1]) (by simp [go_sem, xx0, xx1, xx2, xx3, xx4]) (by simp [go_sem, xf2]) (by simp [go_sem, xx0, xx1, xx2, xx3, xx4]) (by simp [go_sem, xf3]) (by simp [go_sem, xx0, xx1, xx2, xx3, xx4]) (by simp [go_sem, xf4]))⟩
      · have e3 : u 3 = .int .i64 (ρ.2 - 60) := hu 3 (all_of hp (by kernel_rfl))
        refine wpOp_go (E := True) rfl rfl (fun K' hK => ?_)
        go_simp
        refine hK.out _ _ ⟨ρ, (by simp only [put, e3]; rfl), fun _ _ => rfl, hW.pure (by omega) (by omega) (by omega)⟩
    · intro L ρ u wx hall hu hW
      have hkp := hW.kp
      obtain ⟨ra, rb⟩ := hW.rr (hall 2 (by show 2 < 6; omega))
      have hbx := hW.b1 (hall 4 (by show 4 < 6; omega))
      have hs1 := hW.s1 (hall 4 (by show 4 < 6; omega))
      have ee : u 5 = .int .i64 (ρ.2 - 60) := hu 5 (by show 5 < 6; omega)
      have x0 := hbx.cell 0 rfl
      have x1 := hbx.cell 1 rfl
      have x2 := hbx.cell 2 rfl
      have x3 := hbx.cell 3 rfl
      have x4 := hbx.cell 4 rfl
      have hB5 : Below w.heap.size w wx := hkp.below HB3.out (by go_size) (by intro k hq; (try simp only at hq); omega)
      clear hW hkp hall hu hs1 hbx
      go_wp2
      refine bodyPost_ret (by simp [results, Try.results6, go_sem, ee, x0, x1, x2, x3, x4]; try rfl) rfl ?_
      exact ⟨⟨lo, hi, now, i, o⟩, ρ.2 - 60, rfl, HM.out, by omega, by omega, hB5⟩
  have hc : limC true = 0 := rfl
  have hA : limA lo hi now i true = limI i (hi - now) (hi - lo) := rfl
  have hB : limB lo hi now o true = limI o (now - lo) (hi - lo) := rfl
  obtain ⟨h1, h2, h3, h4, h5, h6, h7, h8, h9⟩ := store_of hs
  obtain ⟨q1, q2⟩ := limI_bd (rate := i) (room := hi - now) (whole := hi - lo) h6 (by omega) (by omega)
  obtain ⟨q3, q4⟩ := limI_bd (rate := o) (room := now - lo) (whole := hi - lo) h8 (by omega) (by omega)
  rw [hA, hB]
  generalize limI i (hi - now) (hi - lo) = IN at *
  generalize limI o (now - lo) (hi - lo) = OUT at *
  clear hA hB hs hb3
  go_wp2_with fail
  refine (spec_l01Next (w.heap.size + 1) _ _ (HS3.out.below (by (repeat' (first | (with_reducible exact Below.refl _ _) | (with_reducible assumption) | (with_reducible refine Below.alloc ?_ ?_ _) | (with_reducible refine Below.drew ?_) | (with_reducible refine Below.drewN' ?_ _) | (with_reducible refine Below.setCell ?_ ?_ _) | (refine Below.via ?_ (by with_reducible assumption) ?_) | (with_reducible refine Below.via ?_ (Wd.h _) ?_) | go_size)))) (by omega)).mono ?_
  rintro e w4 ⟨r4, rfl, ra4, _, rb4, hs4, hk4⟩
  have HS4 := Lib.hid hs4
  have rc4 := rb4 (by omega)
  have HB4 := Lib.hid (show Below w.heap.size w w4 from hk4.below HB3.out (by go_size) (by intro k hq; (try simp only at hq); omega))
  clear hs4 rb4
  (have hz4 := hk4.size; (try simp at hz4); have Ncw0_0 := hk4.cell (w.heap.size) (0) (by first | omega | (simp; done) | (simp; omega)) (by intro hq; (try simp only at hq); omega); have Nfw0_0 := hk4.frozen (w.heap.size) (0) (by first | omega | (simp; done) | (simp; omega)) (by intro hq; (try simp only at hq); omega); have Nhy0 : w.heap.size < w4.heap.size := (by omega); have Ncw0_1 := hk4.cell (w.heap.size) (1) (by first | omega | (simp; done) | (simp; omega)) (by intro hq; (try simp only at hq); omega); have Nfw0_1 := hk4.frozen (w.heap.size) (1) (by first | omega | (simp; done) | (simp; omega)) (by intro hq; (try simp only at hq); omega); have Ncw0_2 := hk4.cell (w.heap.size) (2) (by first | omega | (simp; done) | (simp; omega)) (by intro hq; (try simp only at hq); omega); have Nfw0_2 := hk4.frozen (w.heap.size) (2) (by first | omega | (simp; done) | (simp; omega)) (by intro hq; (try simp only at hq); omega); have Ncw0_3 := hk4.cell (w.heap.size) (3) (by first | omega | (simp; done) | (simp; omega)) (by intro hq; (try simp only at hq); omega); have Nfw0_3 := hk4.frozen (w.heap.size) (3) (by first | omega | (simp; done) | (simp; omega)) (by intro hq; (try simp only at hq); omega); have Ncw0_4 := hk4.cell (w.heap.size) (4) (by first | omega | (simp; done) | (simp; omega)) (by intro hq; (try simp only at hq); omega); have Nfw0_4 := hk4.frozen (w.heap.size) (4) (by first | omega | (simp; done) | (simp; omega)) (by intro hq; (try simp only at hq); omega); have Nx_0 := hk4.cell (w2.heap.size) (0) (by first | omega | (simp; done) | (simp; omega)) (by intro hq; (try simp only at hq); omega); have Nx_0f := hk4.frozen (w2.heap.size) (0) (by first | omega | (simp; done) | (simp; omega)) (by intro hq; (try simp only at hq); omega); have Nhy_x : w2.heap.size < w4.heap.size := (by omega); have Nx_1 := hk4.cell (w2.heap.size) (1) (by first | omega | (simp; done) | (simp; omega)) (by intro hq; (try simp only at hq); omega); have Nx_1f := hk4.frozen (w2.heap.size) (1) (by first | omega | (simp; done) | (simp; omega)) (by intro hq; (try simp only at hq); omega); have Nx_2 := hk4.cell (w2.heap.size) (2) (by first | omega | (simp; done) | (simp; omega)) (by intro hq; (try simp only at hq); omega); have Nx_2f := hk4.frozen (w2.heap.size) (2) (by first | omega | (simp; done) | (simp; omega)) (by intro hq; (try simp only at hq); omega); have Nx_3 := hk4.cell (w2.heap.size) (3) (by first | omega | (simp; done) | (simp; omega)) (by intro hq; (try simp only at hq); omega); have Nx_3f := hk4.frozen (w2.heap.size) (3) (by first | omega | (simp; done) | (simp; omega)) (by intro hq; (try simp only at hq); omega); have Nx_4 := hk4.cell (w2.heap.size) (4) (by first | omega | (simp; done) | (simp; omega)) (by intro hq; (try simp only at hq); omega); have Nx_4f := hk4.frozen (w2.heap.size) (4) (by first | omega | (simp; done) | (simp; omega)) (by intro hq; (try simp only at hq); omega); simp [go_sem, cw0_0, fw0_0, cw0_1, fw0_1, cw0_2, fw0_2, cw0_3, fw0_3, cw0_4, fw0_4, x_0, x_0f, x_1, x_1f, x_2, x_2f, x_3, x_3f, x_4, x_4f, hy0, hy_x] at Ncw0_0 Nfw0_0 Ncw0_1 Nfw0_1 Ncw0_2 Nfw0_2 Ncw0_3 Nfw0_3 Ncw0_4 Nfw0_4 Nx_0 Nx_0f Nx_1 Nx_1f Nx_2 Nx_2f Nx_3 Nx_3f Nx_4 Nx_4f; clear cw0_0 fw0_0 cw0_1 fw0_1 cw0_2 fw0_2 cw0_3 fw0_3 cw0_4 fw0_4 x_0 x_0f x_1 x_1f x_2 x_2f x_3 x_3f x_4 x_4f hy0 hy_x; have cw0_0 := Ncw0_0; have fw0_0 := Nfw0_0; have cw0_1 := Ncw0_1; have fw0_1 := Nfw0_1; have cw0_2 := Ncw0_2; have fw0_2 := Nfw0_2; have cw0_3 := Ncw0_3; have fw0_3 := Nfw0_3; have cw0_4 := Ncw0_4; have fw0_4 := Nfw0_4; have x_0 := Nx_0; have x_0f := Nx_0f; have x_1 := Nx_1; have x_1f := Nx_1f; have x_2 := Nx_2; have x_2f := Nx_2f; have x_3 := Nx_3; have x_3f := Nx_3f; have x_4 := Nx_4; have x_4f := Nx_4f; have hy0 := Nhy0; have hy_x := Nhy_x; clear Ncw0_0 Nfw0_0 Ncw0_1 Nfw0_1 Ncw0_2 Nfw0_2 Ncw0_3 Nfw0_3 Ncw0_4 Nfw0_4 Nx_0 Nx_0f Nx_1 Nx_1f Nx_2 Nx_2f Nx_3 Nx_3f Nx_4 Nx_4f Nhy0 Nhy_x)
  clear hk4
  by_cases e0 : r4 = 0
  · subst e0
    go_wp2_with fail
    refine wp_region_tab (R := Nat × Int) (fun u => ⟨#[.slice A l.length c, undef, .pointer (some ⟨w.heap.size, 0, none⟩), u 5, .pointer (some ⟨w.heap.size + 1, 0, none⟩), .pointer (some ⟨w2.heap.size, 0, none⟩), .int .i64 (IN), .int .i64 (OUT), .int .i64 (0), .slice A l.length c, .pointer (some ⟨w.heap.size + 1, 0, none⟩), .pointer (some ⟨w.heap.size + 1, 0, none⟩), stV lo hi now i o, .tuple #[.int .i64 (IN), .int .i64 (OUT), .int .i64 (0)], .agg #[.int .i64 (lo), .int .i64 (hi), .int .i64 (now), .int .i64 (i), .int .i64 (o)], .tuple #[.int .i64 (IN), .int .i64 (OUT), .int .i64 (0)], .int .i64 (IN), .int .i64 (OUT), .int .i64 (0), .int .i64 (0), .bool false, .bool false, .pointer (some ⟨w.heap.size + 1, 0, none⟩), .int .i64 (0), .bool true, .bool true, u 0, u 1, u 2, u 3, undef, undef, undef, undef, undef, undef, undef, undef, undef, undef, undef, undef, undef, undef], []⟩) (fun ρ j => ([.agg #[.int .i64 (lo), .int .i64 (hi), .int .i64 (now), .int .i64 (i), .int .i64 (o)], .pointer (some ⟨w.heap.size + 1, 0, none⟩), .int .i64 (ρ.2), .int .i64 (ρ.2 - 60), undef, .int .i64 (ρ.2 - 60)] : List Value).getD j undef) (WS 99 2 4 (w.heap.size + 1) (w.heap.size) 120 [.int .i64 (0), .int .i64 (0), .int .i64 (0), .int .i64 (0), .int .i64 (0)] (fun r => [.int .i64 (lo), .int .i64 (hi), .int .i64 (now), .int .i64 (i), .int .i64 (o)]) [] w4) (by kernel_rfl) (by kernel_rfl) (fun j => if j = 5 then .int .i64 (0) else undef) rfl (0, 0) (WS.start (Keep.of_below _ (Below.drew (Below.refl _ _))) (HS4.out.below (Below.drew (Below.refl _ _))) (((bx5 (by first | exact hy0 | go_size) (by first | (with_reducible exact cw0_0) | go_cell_look | (simp [go_sem, hy0, cw0_0, fw0_0, cw0_1, fw0_1, cw0_2, fw0_2, cw0_3, fw0_3, cw0_4, fw0_4]; done) | (simp [go_sem]; done)) (by first | (with_reducible exact fw0_0) | (simp only [World.frozen?_setCell, fw0_0]; done) | (simp [go_sem, hy0, cw0_0, fw0_0, cw0_1, fw0_1, cw0_2, fw0_2, cw0_3, fw0_3, cw0_4, fw0_4]; done) | (simp [go_sem]; done)) (by first | (with_reducible exact cw0_1) | go_cell_look | (simp [go_sem, hy0, cw0_0, fw0_0, cw0_1, fw0_1, cw0_2, fw0_2, cw0_3, fw0_3, cw0_4, fw0_4]; done) | (simp [go_sem]; done)) (by first | (with_reducible exact fw0_1) | (simp only [World.frozen?_setCell, fw0_1]; done) | (simp [go_sem, hy0, cw0_0, fw0_0, cw0_1, fw0_1, cw0_2, fw0_2, cw0_3, fw0_3, cw0_4, fw0_4]; done) | (simp [go_sem]; done)) (by first | (with_reducible exact cw0_2) | go_cell_look | (simp [go_sem, hy0, cw0_0, fw0_0, cw0_1, fw0_1, cw0_2, fw0_2, cw0_3, fw0_3, cw0_4, fw0_4]; done) | (simp [go_sem]; done)) (by first | (with_reducible exact fw0_2) | (simp only [World.frozen?_setCell, fw0_2]; done) | (simp [go_sem, hy0, cw0_0, fw0_0, cw0_1, fw0_1, cw0_2, fw0_2, cw0_3, fw0_3, cw0_4, fw0_4]; done) | (simp [go_sem]; done)) (by first | (with_reducible exact cw0_3) | go_cell_look | (simp [go_sem, hy0, cw0_0, fw0_0, cw0_1, fw0_1, cw0_2, fw0_2, cw0_3, fw0_3, cw0_4, fw0_4]; done) | (simp [go_sem]; done)) (by first | (with_reducible exact fw0_3) | (simp only [World.frozen?_setCell, fw0_3]; done) | (simp [go_sem, hy0, cw0_0, fw0_0, cw0_1, fw0_1, cw0_2, fw0_2, cw0_3, fw0_3, cw0_4, fw0_4]; done) | (simp [go_sem]; done)) (by first | (with_reducible exact cw0_4) | go_cell_look | (simp [go_sem, hy0, cw0_0, fw0_0, cw0_1, fw0_1, cw0_2, fw0_2, cw0_3, fw0_3, cw0_4, fw0_4]; done) | (simp [go_sem]; done)) (by first | (with_reducible exact fw0_4) | (simp only [World.frozen?_setCell, fw0_4]; done) | (simp [go_sem, hy0, cw0_0, fw0_0, cw0_1, fw0_1, cw0_2, fw0_2, cw0_3, fw0_3, cw0_4, fw0_4]; done) | (simp [go_sem]; done))) : Bx w4 w.heap.size [.int .i64 (0), .int .i64 (0), .int .i64 (0), .int .i64 (0), .int .i64 (0)]).below (Below.drew (Below.refl _ _)) (by omega))) ?_ ?_
    · intro ii hii L ρ u wx hl hp hc hu hW
      have hii : ii < 6 := hii
      have hkp := hW.kp
      have hii : ii = 0 ∨ ii = 1 ∨ ii = 2 ∨ ii = 3 ∨ ii = 4 ∨ ii = 5 := by omega
      rcases hii with rfl | rfl | rfl | rfl | rfl | rfl
      · have yy0 := (hkp.cell w2.heap.size 0 (by omega) (by omega)).trans x_0
        have yy1 := (hkp.cell w2.heap.size 1 (by omega) (by omega)).trans x_1
        have yy2 := (hkp.cell w2.heap.size 2 (by omega) (by omega)).trans x_2
        have yy3 := (hkp.cell w2.heap.size 3 (by omega) (by omega)).trans x_3
        have yy4 := (hkp.cell w2.heap.size 4 (by omega) (by omega)).trans x_4
        refine wpOp_go (E := True) rfl rfl (fun K' hK => ?_)
        go_simp
        refine hK.out _ _ ⟨ρ, (by simp only [put]; rfl), fun _ _ => rfl, hW.pure (by omega) (by omega) (by omega)⟩
      · refine wpOp_go (E := True) rfl rfl (fun K' hK => ?_)
        go_simp
        refine hK.out _ _ ⟨ρ, (by simp only [put]; rfl), fun _ _ => rfl, hW.pure (by omega) (by omega) (by omega)⟩
      · have hks : L 4 = false := no_later hc hl (by kernel_rfl)
        have e1 : u 1 = .pointer (some ⟨w.heap.size + 1, 0, none⟩) := hu 1 (all_of hp (by kernel_rfl))
        refine wpOp_go (E := True) rfl rfl (fun K' hK => ?_)
        go_simp
        go_at_call 19
        refine (spec_l01Next _ _ _ (hW.s0 hks) (by omega)).mono ?_
        rintro e' w5 ⟨r, rfl, ra, _, rb, hs5, hk5⟩
        have rc := rb (by omega)
        refine hK.out _ _ ⟨(ρ.1, r), (by simp only [put, e1]; rfl), fun j hj => by
              have n3 : L 3 = false := no_later hc hl (by kernel_rfl)
              have n5 : L 5 = false := no_later hc n3 (by kernel_rfl)
              match j, hj with
              | 0, _ => rfl
              | 1, _ => rfl
              | 2, hj => rw [hl] at hj; cases hj
              | 3, hj => rw [n3] at hj; cases hj
              | 4, _ => rfl
              | 5, hj => rw [n5] at hj; cases hj
              | _ + 6, _ => rfl, hW.call (by omega) (by omega) (by omega) (by omega) hks hk5 hs5 ra rc⟩
      · have e2 : u 2 = .int .i64 (ρ.2) := hu 2 (all_of hp (by kernel_rfl))
        obtain ⟨ra, rb⟩ := hW.rr (all_of hp (by kernel_rfl))
        have q2 : IntKind.i64.wrap (ρ.2 - 60) = ρ.2 - 60 := IntWalk.i64_in _ (by omega)
        refine wpOp_go (E := True) rfl rfl (fun K' hK => ?_)
        go_simp
        refine hK.out _ _ ⟨ρ, (by simp only [put, e2]; rfl), fun _ _ => rfl, hW.pure (by omega) (by omega) (by omega)⟩
      · have hks : L 4 = false := hl
        have e0 : u 0 = .agg #[.int .i64 (lo), .int .i64 (hi), .int .i64 (now), .int .i64 (i), .int .i64 (o)] := hu 0 (all_of hp (by kernel_rfl))
        skip
        have hbx := hW.b0 hks
        have xx0 := hbx.cell 0 rfl
        have xx1 := hbx.cell 1 rfl
        have xx2 := hbx.cell 2 rfl
        have xx3 := hbx.cell 3 rfl
        have xx4 := hbx.cell 4 rfl
        have xf0 := hbx.frozen 0 rfl
        have xf1 := hbx.frozen 1 rfl
        have xf2 := hbx.frozen 2 rfl
        have xf3 := hbx.frozen 3 rfl
        have xf4 := hbx.frozen 4 rfl
        have hyX := hbx.lt
        refine wpOp_go (E := True) rfl rfl (fun K' hK => ?_)
        go_simp
        refine hK.out _ _ ⟨ρ, (by simp only [put, e0]; rfl), fun _ _ => rfl, hW.store (by omega) (by omega) hks (by omega) ((((((Keep.refl _ _).one _).one _).one _).one _).one _) (fun z => absurd z (by omega)) (bx5 (by simp; omega) (by simp [go_sem, xx0, xx1, xx2, xx3, xx4]) (by simp [go_sem, xf0]) (by simp [go_sem, xx0, xx1, xx2, xx3, xx4]) (by simp [go_sem, xf1]) (by simp [go_sem, xx0, xx1, xx2, xx3, xx4]) (by simp [go_sem, xf2]) (by simp [go_sem, xx0, xx1, xx2, xx3, xx4]) (by simp [go_sem, xf3]) (by simp [go_sem, xx0, xx1, xx2, xx3, xx4]) (by simp [go_sem, xf4]))⟩
      · have e3 : u 3 = .int .i64 (ρ.2 - 60) := hu 3 (all_of hp (by kernel_rfl))
        refine wpOp_go (E := True) rfl rfl (fun K' hK => ?_)
        go_simp
        refine hK.out _ _ ⟨ρ, (by simp only [put, e3]; rfl), fun _ _ => rfl, hW.pure (by omega) (by omega) (by omega)⟩
    · intro L ρ u wx hall hu hW
      have hkp := hW.kp
      obtain ⟨ra, rb⟩ := hW.rr (hall 2 (by show 2 < 6; omega))
      have hbx := hW.b1 (hall 4 (by show 4 < 6; omega))
      have hs1 := hW.s1 (hall 4 (by show 4 < 6; omega))
      have ee : u 5 = .int .i64 (ρ.2 - 60) := hu 5 (by show 5 < 6; omega)
      have x0 := hbx.cell 0 rfl
      have x1 := hbx.cell 1 rfl
      have x2 := hbx.cell 2 rfl
      have x3 := hbx.cell 3 rfl
      have x4 := hbx.cell 4 rfl
      have hB5 : Below w.heap.size w wx := hkp.below HB4.out (by go_size) (by intro k hq; (try simp only at hq); omega)
      clear hW hkp hall hu hs1 hbx
      go_wp2
      refine bodyPost_ret (by simp [results, Try.results6, go_sem, ee, x0, x1, x2, x3, x4]; try rfl) rfl ?_
      exact ⟨⟨lo, hi, now, i, o⟩, ρ.2 - 60, rfl, HM.out, by omega, by omega, hB5⟩
  have b0 : (r4 == 0) = false := by simpa using e0
  go_wp2_with fail
  have w1 : IntKind.i64.wrap (IN + 1) = IN + 1 := IntWalk.i64_in _ (by omega)
  have w2' : IntKind.i64.wrap (-OUT) = -OUT := IntWalk.i64_in _ (by omega)
  have w3' : IntKind.i64.wrap (-OUT - 1) = -OUT - 1 := IntWalk.i64_in _ (by omega)
  refine wp_region_tab (R := Nat × Int) (fun u => ⟨#[.slice A l.length c, undef, .pointer (some ⟨w.heap.size, 0, none⟩), u 15, .pointer (some ⟨w.heap.size + 1, 0, none⟩), .pointer (some ⟨w2.heap.size, 0, none⟩), .int .i64 (IN), .int .i64 (OUT), .int .i64 (0), .slice A l.length c, .pointer (some ⟨w.heap.size + 1, 0, none⟩), .pointer (some ⟨w.heap.size + 1, 0, none⟩), stV lo hi now i o, .tuple #[.int .i64 (IN), .int .i64 (OUT), .int .i64 (0)], .agg #[.int .i64 (lo), .int .i64 (hi), .int .i64 (now), .int .i64 (i), .int .i64 (o)], .tuple #[.int .i64 (IN), .int .i64 (OUT), .int .i64 (0)], .int .i64 (IN), .int .i64 (OUT), .int .i64 (0), .int .i64 (0), .bool false, .bool false, .pointer (some ⟨w.heap.size + 1, 0, none⟩), .int .i64 (r4), .bool false, .bool false, undef, undef, undef, undef, u 0, u 1, u 2, u 3, u 4, u 5, u 6, u 7, u 8, u 9, u 10, u 11, u 12, u 13], []⟩) (fun ρ j => ([.agg #[.int .i64 (lo), .int .i64 (hi), .int .i64 (now), .int .i64 (i), .int .i64 (o)], .int .i64 (IN), .int .i64 (IN), .int .i64 (IN + 1), .int .i64 (OUT), .int .i64 (-OUT), .int .i64 (OUT), .int .i64 (-OUT), .int .i64 (-OUT - 1), .slice (some ⟨ρ.1, 0, none⟩) 5 5, .pointer (some ⟨w.heap.size + 1, 0, none⟩), .int .i64 (ρ.2), .pointer (some ⟨ρ.1, ρ.2.toNat, none⟩), .int .i64 (pick [IN, IN + 1, -OUT, -OUT - 1, 0] ρ.2.toNat), undef, .int .i64 (pick [IN, IN + 1, -OUT, -OUT - 1, 0] ρ.2.toNat)] : List Value).getD j undef) (WS 9 11 14 (w.heap.size + 1) (w.heap.size) 5 [.int .i64 (0), .int .i64 (0), .int .i64 (0), .int .i64 (0), .int .i64 (0)] (fun r => [.int .i64 (lo), .int .i64 (hi), .int .i64 (now), .int .i64 (i), .int .i64 (o)]) [.int .i64 (IN), .int .i64 (IN + 1), .int .i64 (-OUT), .int .i64 (-OUT - 1), .int .i64 (0)] w4) (by kernel_rfl) (by kernel_rfl) (fun j => if j = 15 then .int .i64 (0) else undef) rfl (0, 0) (WS.start (Keep.of_below _ (Below.drew (Below.refl _ _))) (HS4.out.below (Below.drew (Below.refl _ _))) (((bx5 (by first | exact hy0 | go_size) (by first | (with_reducible exact cw0_0) | go_cell_look | (simp [go_sem, hy0, cw0_0, fw0_0, cw0_1, fw0_1, cw0_2, fw0_2, cw0_3, fw0_3, cw0_4, fw0_4]; done) | (simp [go_sem]; done)) (by first | (with_reducible exact fw0_0) | (simp only [World.frozen?_setCell, fw0_0]; done) | (simp [go_sem, hy0, cw0_0, fw0_0, cw0_1, fw0_1, cw0_2, fw0_2, cw0_3, fw0_3, cw0_4, fw0_4]; done) | (simp [go_sem]; done)) (by first | (with_reducible exact cw0_1) | go_cell_look | (simp [go_sem, hy0, cw0_0, fw0_0, cw0_1, fw0_1, cw0_2, fw0_2, cw0_3, fw0_3, cw0_4, fw0_4]; done) | (simp [go_sem]; done)) (by first | (with_reducible exact fw0_1) | (simp only [World.frozen?_setCell, fw0_1]; done) | (simp [go_sem, hy0, cw0_0, fw0_0, cw0_1, fw0_1, cw0_2, fw0_2, cw0_3, fw0_3, cw0_4, fw0_4]; done) | (simp [go_sem]; done)) (by first | (with_reducible exact cw0_2) | go_cell_look | (simp [go_sem, hy0, cw0_0, fw0_0, cw0_1, fw0_1, cw0_2, fw0_2, cw0_3, fw0_3, cw0_4, fw0_4]; done) | (simp [go_sem]; done)) (by first | (with_reducible exact fw0_2) | (simp only [World.frozen?_setCell, fw0_2]; done) | (simp [go_sem, hy0, cw0_0, fw0_0, cw0_1, fw0_1, cw0_2, fw0_2, cw0_3, fw0_3, cw0_4, fw0_4]; done) | (simp [go_sem]; done)) (by first | (with_reducible exact cw0_3) | go_cell_look | (simp [go_sem, hy0, cw0_0, fw0_0, cw0_1, fw0_1, cw0_2, fw0_2, cw0_3, fw0_3, cw0_4, fw0_4]; done) | (simp [go_sem]; done)) (by first | (with_reducible exact fw0_3) | (simp only [World.frozen?_setCell, fw0_3]; done) | (simp [go_sem, hy0, cw0_0, fw0_0, cw0_1, fw0_1, cw0_2, fw0_2, cw0_3, fw0_3, cw0_4, fw0_4]; done) | (simp [go_sem]; done)) (by first | (with_reducible exact cw0_4) | go_cell_look | (simp [go_sem, hy0, cw0_0, fw0_0, cw0_1, fw0_1, cw0_2, fw0_2, cw0_3, fw0_3, cw0_4, fw0_4]; done) | (simp [go_sem]; done)) (by first | (with_reducible exact fw0_4) | (simp only [World.frozen?_setCell, fw0_4]; done) | (simp [go_sem, hy0, cw0_0, fw0_0, cw0_1, fw0_1, cw0_2, fw0_2, cw0_3, fw0_3, cw0_4, fw0_4]; done) | (simp [go_sem]; done))) : Bx w4 w.heap.size [.int .i64 (0), .int .i64 (0), .int .i64 (0), .int .i64 (0), .int .i64 (0)]).below (Below.drew (Below.refl _ _)) (by omega))) ?_ ?_
  · intro ii hii L ρ u wx hl hp hc hu hW
    have hii : ii < 16 := hii
    have hkp := hW.kp
    have hii : ii = 0 ∨ ii = 1 ∨ ii = 2 ∨ ii = 3 ∨ ii = 4 ∨ ii = 5 ∨ ii = 6 ∨ ii = 7 ∨ ii = 8 ∨ ii = 9 ∨ ii = 10 ∨ ii = 11 ∨ ii = 12 ∨ ii = 13 ∨ ii = 14 ∨ ii = 15 := by omega
    rcases hii with rfl | rfl | rfl | rfl | rfl | rfl | rfl | rfl | rfl | rfl | rfl | rfl | rfl | rfl | rfl | rfl
    · have yy0 := (hkp.cell w2.heap.size 0 (by omega) (by omega)).trans x_0
      have yy1 := (hkp.cell w2.heap.size 1 (by omega) (by omega)).trans x_1
      have yy2 := (hkp.cell w2.heap.size 2 (by omega) (by omega)).trans x_2
      have yy3 := (hkp.cell w2.heap.size 3 (by omega) (by omega)).trans x_3
      have yy4 := (hkp.cell w2.heap.size 4 (by omega) (by omega)).trans x_4
      refine wpOp_go (E := True) rfl rfl (fun K' hK => ?_)
      go_simp
      refine hK.out _ _ ⟨ρ, (by simp only [put]; rfl), fun _ _ => rfl, hW.pure (by omega) (by omega) (by omega)⟩
    · refine wpOp_go (E := True) rfl rfl (fun K' hK => ?_)
      go_simp
      refine hK.out _ _ ⟨ρ, (by simp only [put]; rfl), fun _ _ => rfl, hW.pure (by omega) (by omega) (by omega)⟩
    · refine wpOp_go (E := True) rfl rfl (fun K' hK => ?_)
      go_simp
      refine hK.out _ _ ⟨ρ, (by simp only [put]; rfl), fun _ _ => rfl, hW.pure (by omega) (by omega) (by omega)⟩
    · have e2 : u 2 = .int .i64 (IN) := hu 2 (all_of hp (by kernel_rfl))
      refine wpOp_go (E := True) rfl rfl (fun K' hK => ?_)
      go_simp
      refine hK.out _ _ ⟨ρ, (by simp only [put, e2]; rfl), fun _ _ => rfl, hW.pure (by omega) (by omega) (by omega)⟩
    · refine wpOp_go (E := True) rfl rfl (fun K' hK => ?_)
      go_simp
      refine hK.out _ _ ⟨ρ, (by simp only [put]; rfl), fun _ _ => rfl, hW.pure (by omega) (by omega) (by omega)⟩
    · have e4 : u 4 = .int .i64 (OUT) := hu 4 (all_of hp (by kernel_rfl))
      refine wpOp_go (E := True) rfl rfl (fun K' hK => ?_)
      go_simp
      refine hK.out _ _ ⟨ρ, (by simp only [put, e4]; rfl), fun _ _ => rfl, hW.pure (by omega) (by omega) (by omega)⟩
    · refine wpOp_go (E := True) rfl rfl (fun K' hK => ?_)
      go_simp
      refine hK.out _ _ ⟨ρ, (by simp only [put]; rfl), fun _ _ => rfl, hW.pure (by omega) (by omega) (by omega)⟩
    · have e6 : u 6 = .int .i64 (OUT) := hu 6 (all_of hp (by kernel_rfl))
      refine wpOp_go (E := True) rfl rfl (fun K' hK => ?_)
      go_simp
      refine hK.out _ _ ⟨ρ, (by simp only [put, e6]; rfl), fun _ _ => rfl, hW.pure (by omega) (by omega) (by omega)⟩
    · have e7 : u 7 = .int .i64 (-OUT) := hu 7 (all_of hp (by kernel_rfl))
      refine wpOp_go (E := True) rfl rfl (fun K' hK => ?_)
      go_simp
      refine hK.out _ _ ⟨ρ, (by simp only [put, e7]; rfl), fun _ _ => rfl, hW.pure (by omega) (by omega) (by omega)⟩
    · have e1 : u 1 = .int .i64 (IN) := hu 1 (all_of hp (by kernel_rfl))
      have e3 : u 3 = .int .i64 (IN + 1) := hu 3 (all_of hp (by kernel_rfl))
      have e5 : u 5 = .int .i64 (-OUT) := hu 5 (all_of hp (by kernel_rfl))
      have e8 : u 8 = .int .i64 (-OUT - 1) := hu 8 (all_of hp (by kernel_rfl))
      refine wpOp_go (E := True) rfl rfl (fun K' hK => ?_)
      go_simp
      refine hK.out _ _ ⟨(wx.heap.size, ρ.2), (by simp only [put, e1, e3, e5, e8]; rfl), fun j hj => by
            have n12 : L 12 = false := no_later hc hl (by kernel_rfl)
            have n13 : L 13 = false := no_later hc n12 (by kernel_rfl)
            have n15 : L 15 = false := no_later hc n13 (by kernel_rfl)
            match j, hj with
            | 0, _ => rfl
            | 1, _ => rfl
            | 2, _ => rfl
            | 3, _ => rfl
            | 4, _ => rfl
            | 5, _ => rfl
            | 6, _ => rfl
            | 7, _ => rfl
            | 8, _ => rfl
            | 9, hj => rw [hl] at hj; cases hj
            | 10, _ => rfl
            | 11, _ => rfl
            | 12, hj => rw [n12] at hj; cases hj
            | 13, hj => rw [n13] at hj; cases hj
            | 14, _ => rfl
            | 15, hj => rw [n15] at hj; cases hj
            | _ + 16, _ => rfl, hW.alloc (by omega) (by omega) (by (repeat' (first | (with_reducible exact Below.refl _ _) | (with_reducible assumption) | (with_reducible refine Below.alloc ?_ ?_ _) | (with_reducible refine Below.drew ?_) | (with_reducible refine Below.drewN' ?_ _) | (with_reducible refine Below.setCell ?_ ?_ _) | (refine Below.via ?_ (by with_reducible assumption) ?_) | (with_reducible refine Below.via ?_ (Wd.h _) ?_) | go_size))) (bx5 (by simp) (by simp) (by simp) (by simp) (by simp) (by simp) (by simp) (by simp) (by simp) (by simp) (by simp))⟩
    · refine wpOp_go (E := True) rfl rfl (fun K' hK => ?_)
      go_simp
      refine hK.out _ _ ⟨ρ, (by simp only [put]; rfl), fun _ _ => rfl, hW.pure (by omega) (by omega) (by omega)⟩
    · have hks : L 14 = false := no_later hc hl (by kernel_rfl)
      have e10 : u 10 = .pointer (some ⟨w.heap.size + 1, 0, none⟩) := hu 10 (all_of hp (by kernel_rfl))
      refine wpOp_go (E := True) rfl rfl (fun K' hK => ?_)
      go_simp
      go_at_call 19
      refine (spec_l01Next _ _ _ (hW.s0 hks) (by omega)).mono ?_
      rintro e' w5 ⟨r, rfl, ra, _, rb, hs5, hk5⟩
      have rc := rb (by omega)
      refine hK.out _ _ ⟨(ρ.1, r), (by simp only [put, e10]; rfl), fun j hj => by
            have n12 : L 12 = false := no_later hc hl (by kernel_rfl)
            have n13 : L 13 = false := no_later hc n12 (by kernel_rfl)
            have n15 : L 15 = false := no_later hc n13 (by kernel_rfl)
            match j, hj with
            | 0, _ => rfl
            | 1, _ => rfl
            | 2, _ => rfl
            | 3, _ => rfl
            | 4, _ => rfl
            | 5, _ => rfl
            | 6, _ => rfl
            | 7, _ => rfl
            | 8, _ => rfl
            | 9, _ => rfl
            | 10, _ => rfl
            | 11, hj => rw [hl] at hj; cases hj
            | 12, hj => rw [n12] at hj; cases hj
            | 13, hj => rw [n13] at hj; cases hj
            | 14, _ => rfl
            | 15, hj => rw [n15] at hj; cases hj
            | _ + 16, _ => rfl, hW.call (by omega) (by omega) (by omega) (by omega) hks hk5 hs5 ra rc⟩
    · have e9 : u 9 = .slice (some ⟨ρ.1, 0, none⟩) 5 5 := hu 9 (all_of hp (by kernel_rfl))
      have e11 : u 11 = .int .i64 (ρ.2) := hu 11 (all_of hp (by kernel_rfl))
      obtain ⟨ra, rb⟩ := hW.rr (all_of hp (by kernel_rfl))
      have rn : ρ.2.toNat < 5 := by omega
      refine wpOp_go (E := True) rfl rfl (fun K' hK => ?_)
      go_simp
      refine hK.out _ _ ⟨ρ, (by simp only [put, e9, e11]; rfl), fun _ _ => rfl, hW.pure (by omega) (by omega) (by omega)⟩
    · have e12 : u 12 = .pointer (some ⟨ρ.1, ρ.2.toNat, none⟩) := hu 12 (all_of hp (by kernel_rfl))
      obtain ⟨ra, rb⟩ := hW.rr (all_of (hc 12 (all_of hp (by kernel_rfl))) (by kernel_rfl))
      have rn : ρ.2.toNat < 5 := by omega
      obtain ⟨hg, hga⟩ := hW.ar (all_of (hc 12 (all_of hp (by kernel_rfl))) (by kernel_rfl))
      have hgx := hga.cell ρ.2.toNat (pickL5 IN (IN + 1) (-OUT) (-OUT - 1) 0 ρ.2.toNat rn)
      refine wpOp_go (E := True) rfl rfl (fun K' hK => ?_)
      go_simp
      refine hK.out _ _ ⟨ρ, (by simp only [put, e12]; rfl), fun _ _ => rfl, hW.pure (by omega) (by omega) (by omega)⟩
    · have hks : L 14 = false := hl
      have e0 : u 0 = .agg #[.int .i64 (lo), .int .i64 (hi), .int .i64 (now), .int .i64 (i), .int .i64 (o)] := hu 0 (all_of hp (by kernel_rfl))
      have hbx := hW.b0 hks
      have xx0 := hbx.cell 0 rfl
      have xx1 := hbx.cell 1 rfl
      have xx2 := hbx.cell 2 rfl
      have xx3 := hbx.cell 3 rfl
      have xx4 := hbx.cell 4 rfl
      have xf0 := hbx.frozen 0 rfl
      have xf1 := hbx.frozen 1 rfl
      have xf2 := hbx.frozen 2 rfl
      have xf3 := hbx.frozen 3 rfl
      have xf4 := hbx.frozen 4 rfl
      have hyX := hbx.lt
      refine wpOp_go (E := True) rfl rfl (fun K' hK => ?_)
      go_simp
      refine hK.out _ _ ⟨ρ, (by simp only [put, e0]; rfl), fun _ _ => rfl, hW.store (by omega) (by omega) hks (by omega) ((((((Keep.refl _ _).one _).one _).one _).one _).one _) (fun z => absurd z (by omega)) (bx5 (by simp; omega) (by simp [go_sem, xx0, xx1, xx2, xx3, xx4]) (by simp [go_sem, xf0]) (by simp [go_sem, xx0, xx1, xx2, xx3, xx4]) (by simp [go_sem, xf1]) (by simp [go_sem, xx0, xx1, xx2, xx3, xx4]) (by simp [go_sem, xf2]) (by simp [go_sem, xx0, xx1, xx2, xx3, xx4]) (by simp [go_sem, xf3]) (by simp [go_sem, xx0, xx1, xx2, xx3, xx4]) (by simp [go_sem, xf4]))⟩
    · have e13 : u 13 = .int .i64 (pick [IN, IN + 1, -OUT, -OUT - 1, 0] ρ.2.toNat) := hu 13 (all_of hp (by kernel_rfl))
      refine wpOp_go (E := True) rfl rfl (fun K' hK => ?_)
      go_simp
      refine hK.out _ _ ⟨ρ, (by simp only [put, e13]; rfl), fun _ _ => rfl, hW.pure (by omega) (by omega) (by omega)⟩
  · intro L ρ u wx hall hu hW
    have hkp := hW.kp
    obtain ⟨ra, rb⟩ := hW.rr (hall 11 (by show 11 < 16; omega))
    have hbx := hW.b1 (hall 14 (by show 14 < 16; omega))
    have hs1 := hW.s1 (hall 14 (by show 14 < 16; omega))
    have hpb := pick_bd (lo := -2000000000) (hi := 2000000000) (by omega) (by omega) [IN, IN + 1, -OUT, -OUT - 1, 0] (by simp; omega) ρ.2.toNat
    have ee : u 15 = .int .i64 (pick [IN, IN + 1, -OUT, -OUT - 1, 0] ρ.2.toNat) := hu 15 (by show 15 < 16; omega)
    have x0 := hbx.cell 0 rfl
    have x1 := hbx.cell 1 rfl
    have x2 := hbx.cell 2 rfl
    have x3 := hbx.cell 3 rfl
    have x4 := hbx.cell 4 rfl
    have hB5 : Below w.heap.size w wx := hkp.below HB4.out (by go_size) (by intro k hq; (try simp only at hq); omega)
    clear hW hkp hall hu hs1 hbx
    go_wp2
    refine bodyPost_ret (by simp [results, Try.results6, go_sem, ee, x0, x1, x2, x3, x4]; try rfl) rfl ?_
    exact ⟨⟨lo, hi, now, i, o⟩, pick [IN, IN + 1, -OUT, -OUT - 1, 0] ρ.2.toNat, rfl, HM.out, by omega, by omega, hB5⟩
end Go.Proofs.Ytioboahhiklolaa
