/- Drawn fillings of stores. -/
import Derived.Test.YtioboahhiklolaaDs
import Derived.Test.YtioboahhiklolaaLm
namespace Go.Proofs.Ytioboahhiklolaa
set_option linter.unusedVariables false
set_option linter.unusedSimpArgs false
open Go.RowKit
theorem fN' (hi lo : Int) : (if 1 < (if hi - lo + 1 < 1000 then hi - lo + 1 else 1000) then (if hi - lo + 1 < 1000 then hi - lo + 1 else 1000) else 1) ≤ 1000 := by
  split <;> (try split) <;> omega
theorem fN (hi lo : Int) : (if 1 < (if hi - lo + 1 < 1000 then hi - lo + 1 else 1000) then (if hi - lo + 1 < 1000 then hi - lo + 1 else 1000) else 1) ≤ 9223372036854775807 := Int.le_trans (fN' hi lo) (by omega)
structure WF (k1 k2 ks p X : Nat) (c0 c1 : List Value) (w0 : World) (L : Nat → Bool) (ρ : Int × Int) (w : World) : Prop where
  kp : Keep (fun k => k = p ∨ k = X) w0 w
  s0 : L ks = false → Src w p
  b0 : L ks = false → Bx w X c0
  b1 : L ks = true → Bx w X c1
  r1 : L k1 = true → 0 ≤ ρ.1 ∧ ρ.1 ≤ 1000
  r2 : L k2 = true → 0 ≤ ρ.2 ∧ ρ.2 ≤ 19
variable {k1 k2 ks p X : Nat} {c0 c1 : List Value} {w0 w w' : World} {L : Nat → Bool} {ρ : Int × Int}
theorem WF.start (hk : Keep (fun k => k = p ∨ k = X) w0 w) (hs : Src w p) (hb : Bx w X c0) : WF k1 k2 ks p X c0 c1 w0 (fun _ => false) ρ w :=
  ⟨hk, fun _ => hs, fun _ => hb, (fun h => by cases h), (fun h => by cases h), (fun h => by cases h)⟩
theorem WF.pure (h : WF k1 k2 ks p X c0 c1 w0 L ρ w) {i : Nat} (h1 : k1 ≠ i) (h2 : k2 ≠ i) (h3 : ks ≠ i) : WF k1 k2 ks p X c0 c1 w0 (upd L i) ρ w := by
  constructor <;> try simp only [upd_ne h1, upd_ne h2, upd_ne h3]
  · exact h.kp
  · exact h.s0
  · exact h.b0
  · exact h.b1
  · exact h.r1
  · exact h.r2
theorem WF.call1 (h : WF k1 k2 ks p X c0 c1 w0 L ρ w) (hp : p < w0.heap.size) (hX : p ≠ X) (h1 : k2 ≠ k1) (h2 : ks ≠ k1) (hks : L ks = false) (hk : Keep (· = p) w w') (hs : Src w' p) {r : Int} (ra : 0 ≤ r) (rb : r ≤ 1000) : WF k1 k2 ks p X c0 c1 w0 (upd L k1) (r, ρ.2) w' := by
  constructor <;> try simp only [upd_ne h1, upd_ne h2, upd_self]
  · exact h.kp.trans (hk.wide fun k q => Or.inl q)
  · exact fun _ => hs
  · intro q; exact (h.b0 q).keep hk (by omega)
  · intro q; rw [hks] at q; cases q
  · exact fun _ => ⟨ra, rb⟩
  · exact h.r2
theorem WF.call2 (h : WF k1 k2 ks p X c0 c1 w0 L ρ w) (hp : p < w0.heap.size) (hX : p ≠ X) (h1 : k1 ≠ k2) (h2 : ks ≠ k2) (hks : L ks = false) (hk : Keep (· = p) w w') (hs : Src w' p) {r : Int} (ra : 0 ≤ r) (rb : r ≤ 19) : WF k1 k2 ks p X c0 c1 w0 (upd L k2) (ρ.1, r) w' := by
  constructor <;> try simp only [upd_ne h1, upd_ne h2, upd_self]
  · exact h.kp.trans (hk.wide fun k q => Or.inl q)
  · exact fun _ => hs
  · intro q; exact (h.b0 q).keep hk (by omega)
  · intro q; rw [hks] at q; cases q
  · exact h.r1
  · exact fun _ => ⟨ra, rb⟩
theorem WF.store (h : WF k1 k2 ks p X c0 c1 w0 L ρ w) (h1 : k1 ≠ ks) (h2 : k2 ≠ ks) (hb : Keep (· = X) w w') (hx : Bx w' X c1) : WF k1 k2 ks p X c0 c1 w0 (upd L ks) ρ w' := by
  constructor <;> try simp only [upd_ne h1, upd_ne h2, upd_self]
  · exact h.kp.trans (hb.wide fun k q => Or.inr q)
  · intro q; cases q
  · intro q; cases q
  · exact fun _ => hx
  · exact h.r1
  · exact h.r2
set_option maxRecDepth 100000 in
set_option maxHeartbeats 8000000 in
theorem spec_DrawFillHours (A : Option Addr) (c : Nat) (l : List Int) (w : World) (h : BytesIn w A l) (hl : l.length ≤ 4096) :
    Calls Try.prog 13 #[.slice A l.length c] w fun e w' => ∃ (s : Sv) (a : Int), e = .returned (.tuple #[stV s.lo s.hi s.now s.i s.o, .int .i64 a]) ∧ s.sm ∧ -2000000000 ≤ a ∧ a ≤ 2000000000 ∧ Below w.heap.size w w' := by
  have HI := Lib.hid h
  clear h
  go_enter Try.func13, Try.ntmps13
  go_wp2_with fail
  refine (spec_l01From A c l _ (HI.out.below (by (repeat' (first | (with_reducible exact Below.refl _ _) | (with_reducible assumption) | (with_reducible refine Below.alloc ?_ ?_ _) | (with_reducible refine Below.drew ?_) | (with_reducible refine Below.drewN' ?_ _) | (with_reducible refine Below.setCell ?_ ?_ _) | (refine Below.via ?_ (by with_reducible assumption) ?_) | (with_reducible refine Below.via ?_ (Wd.h _) ?_) | go_size)))) hl).mono ?_
  rintro e w1 ⟨rfl, hs1, hb1⟩
  have hs1 : Src w1 (w.heap.size + 1) := by simpa using hs1
  have HS1 := Lib.hid hs1
  clear hs1
  (obtain ⟨hcn, hfn⟩ := bcell hb1; have hz1 := hb1.size; (try simp at hz1); have Ncw0_0 := hcn (w.heap.size) (0) (by first | omega | (simp; done) | (simp; omega)); have Nfw0_0 := hfn (w.heap.size) (0) (by first | omega | (simp; done) | (simp; omega)); have Nhy0 : w.heap.size < w1.heap.size := (by omega); have Ncw0_1 := hcn (w.heap.size) (1) (by first | omega | (simp; done) | (simp; omega)); have Nfw0_1 := hfn (w.heap.size) (1) (by first | omega | (simp; done) | (simp; omega)); have Ncw0_2 := hcn (w.heap.size) (2) (by first | omega | (simp; done) | (simp; omega)); have Nfw0_2 := hfn (w.heap.size) (2) (by first | omega | (simp; done) | (simp; omega)); have Ncw0_3 := hcn (w.heap.size) (3) (by first | omega | (simp; done) | (simp; omega)); have Nfw0_3 := hfn (w.heap.size) (3) (by first | omega | (simp; done) | (simp; omega)); have Ncw0_4 := hcn (w.heap.size) (4) (by first | omega | (simp; done) | (simp; omega)); have Nfw0_4 := hfn (w.heap.size) (4) (by first | omega | (simp; done) | (simp; omega)); simp [go_sem] at Ncw0_0 Nfw0_0 Ncw0_1 Nfw0_1 Ncw0_2 Nfw0_2 Ncw0_3 Nfw0_3 Ncw0_4 Nfw0_4; clear hcn hfn; have cw0_0 := Ncw0_0; have fw0_0 := Nfw0_0; have cw0_1 := Ncw0_1; have fw0_1 := Nfw0_1; have cw0_2 := Ncw0_2; have fw0_2 := Nfw0_2; have cw0_3 := Ncw0_3; have fw0_3 := Nfw0_3; have cw0_4 := Ncw0_4; have fw0_4 := Nfw0_4; have hy0 := Nhy0; clear Ncw0_0 Nfw0_0 Ncw0_1 Nfw0_1 Ncw0_2 Nfw0_2 Ncw0_3 Nfw0_3 Ncw0_4 Nfw0_4 Nhy0)
  go_wp2_with fail
  refine (spec_l17Draw (w.heap.size + 1) _ (HS1.out.below (by (repeat' (first | (with_reducible exact Below.refl _ _) | (with_reducible assumption) | (with_reducible refine Below.alloc ?_ ?_ _) | (with_reducible refine Below.drew ?_) | (with_reducible refine Below.drewN' ?_ _) | (with_reducible refine Below.setCell ?_ ?_ _) | (refine Below.via ?_ (by with_reducible assumption) ?_) | (with_reducible refine Below.via ?_ (Wd.h _) ?_) | go_size))))).mono ?_
  rintro e w2 ⟨⟨lo, hi, now, i, o⟩, rfl, hsm, hs2, hk2⟩
  have HS2 := Lib.hid hs2
  have HM := Lib.hid hsm
  have HB2 := Lib.hid (show Below w.heap.size w w2 from hk2.below (by (repeat' (first | (with_reducible exact Below.refl _ _) | (with_reducible assumption) | (with_reducible refine Below.alloc ?_ ?_ _) | (with_reducible refine Below.drew ?_) | (with_reducible refine Below.drewN' ?_ _) | (with_reducible refine Below.setCell ?_ ?_ _) | (refine Below.via ?_ (by with_reducible assumption) ?_) | (with_reducible refine Below.via ?_ (Wd.h _) ?_) | go_size))) (by go_size) (by intro k hq; (try simp only at hq); omega))
  clear hs2 hb1
  (have hz2 := hk2.size; (try simp at hz2); have Ncw0_0 := hk2.cell (w.heap.size) (0) (by first | omega | (simp; done) | (simp; omega)) (by intro hq; (try simp only at hq); omega); have Nfw0_0 := hk2.frozen (w.heap.size) (0) (by first | omega | (simp; done) | (simp; omega)) (by intro hq; (try simp only at hq); omega); have Nhy0 : w.heap.size < w2.heap.size := (by omega); have Ncw0_1 := hk2.cell (w.heap.size) (1) (by first | omega | (simp; done) | (simp; omega)) (by intro hq; (try simp only at hq); omega); have Nfw0_1 := hk2.frozen (w.heap.size) (1) (by first | omega | (simp; done) | (simp; omega)) (by intro hq; (try simp only at hq); omega); have Ncw0_2 := hk2.cell (w.heap.size) (2) (by first | omega | (simp; done) | (simp; omega)) (by intro hq; (try simp only at hq); omega); have Nfw0_2 := hk2.frozen (w.heap.size) (2) (by first | omega | (simp; done) | (simp; omega)) (by intro hq; (try simp only at hq); omega); have Ncw0_3 := hk2.cell (w.heap.size) (3) (by first | omega | (simp; done) | (simp; omega)) (by intro hq; (try simp only at hq); omega); have Nfw0_3 := hk2.frozen (w.heap.size) (3) (by first | omega | (simp; done) | (simp; omega)) (by intro hq; (try simp only at hq); omega); have Ncw0_4 := hk2.cell (w.heap.size) (4) (by first | omega | (simp; done) | (simp; omega)) (by intro hq; (try simp only at hq); omega); have Nfw0_4 := hk2.frozen (w.heap.size) (4) (by first | omega | (simp; done) | (simp; omega)) (by intro hq; (try simp only at hq); omega); simp [go_sem, cw0_0, fw0_0, cw0_1, fw0_1, cw0_2, fw0_2, cw0_3, fw0_3, cw0_4, fw0_4, hy0] at Ncw0_0 Nfw0_0 Ncw0_1 Nfw0_1 Ncw0_2 Nfw0_2 Ncw0_3 Nfw0_3 Ncw0_4 Nfw0_4; clear cw0_0 fw0_0 cw0_1 fw0_1 cw0_2 fw0_2 cw0_3 fw0_3 cw0_4 fw0_4 hy0; have cw0_0 := Ncw0_0; have fw0_0 := Nfw0_0; have cw0_1 := Ncw0_1; have fw0_1 := Nfw0_1; have cw0_2 := Ncw0_2; have fw0_2 := Nfw0_2; have cw0_3 := Ncw0_3; have fw0_3 := Nfw0_3; have cw0_4 := Ncw0_4; have fw0_4 := Nfw0_4; have hy0 := Nhy0; clear Ncw0_0 Nfw0_0 Ncw0_1 Nfw0_1 Ncw0_2 Nfw0_2 Ncw0_3 Nfw0_3 Ncw0_4 Nfw0_4 Nhy0)
  clear hk2
  have hp2 := HS2.out.lt
  obtain ⟨⟨lo1, lo2⟩, ⟨hi1, hi2⟩, ⟨nw1, nw2⟩, ⟨i1, i2⟩, ⟨o1, o2⟩⟩ := hsm
  dsimp only at lo1 lo2 hi1 hi2 nw1 nw2 i1 i2 o1 o2
  go_wp2_with fail
  
  (generalize hW : World.alloc w2 _ = w2x; have hzn := congrArg (fun W => W.heap.size) hW; simp at hzn; have Ncw0_0 := congrArg (fun W => World.cell? W ⟨w.heap.size, 0, none⟩) hW.symm; have Nfw0_0 := congrArg (fun W => World.frozen? W ⟨w.heap.size, 0, none⟩) hW.symm; have Nhy0 : w.heap.size < w2x.heap.size := (by omega); have Ncw0_1 := congrArg (fun W => World.cell? W ⟨w.heap.size, 1, none⟩) hW.symm; have Nfw0_1 := congrArg (fun W => World.frozen? W ⟨w.heap.size, 1, none⟩) hW.symm; have Ncw0_2 := congrArg (fun W => World.cell? W ⟨w.heap.size, 2, none⟩) hW.symm; have Nfw0_2 := congrArg (fun W => World.frozen? W ⟨w.heap.size, 2, none⟩) hW.symm; have Ncw0_3 := congrArg (fun W => World.cell? W ⟨w.heap.size, 3, none⟩) hW.symm; have Nfw0_3 := congrArg (fun W => World.frozen? W ⟨w.heap.size, 3, none⟩) hW.symm; have Ncw0_4 := congrArg (fun W => World.cell? W ⟨w.heap.size, 4, none⟩) hW.symm; have Nfw0_4 := congrArg (fun W => World.frozen? W ⟨w.heap.size, 4, none⟩) hW.symm; have Nx_0 := congrArg (fun W => World.cell? W ⟨w2.heap.size, 0, none⟩) hW.symm; have Nx_0f := congrArg (fun W => World.frozen? W ⟨w2.heap.size, 0, none⟩) hW.symm; have Nhy_x : w2.heap.size < w2x.heap.size := (by omega); have Nx_1 := congrArg (fun W => World.cell? W ⟨w2.heap.size, 1, none⟩) hW.symm; have Nx_1f := congrArg (fun W => World.frozen? W ⟨w2.heap.size, 1, none⟩) hW.symm; have Nx_2 := congrArg (fun W => World.cell? W ⟨w2.heap.size, 2, none⟩) hW.symm; have Nx_2f := congrArg (fun W => World.frozen? W ⟨w2.heap.size, 2, none⟩) hW.symm; have Nx_3 := congrArg (fun W => World.cell? W ⟨w2.heap.size, 3, none⟩) hW.symm; have Nx_3f := congrArg (fun W => World.frozen? W ⟨w2.heap.size, 3, none⟩) hW.symm; have Nx_4 := congrArg (fun W => World.cell? W ⟨w2.heap.size, 4, none⟩) hW.symm; have Nx_4f := congrArg (fun W => World.frozen? W ⟨w2.heap.size, 4, none⟩) hW.symm; simp [go_sem, cw0_0, fw0_0, cw0_1, fw0_1, cw0_2, fw0_2, cw0_3, fw0_3, cw0_4, fw0_4, hy0] at Ncw0_0 Nfw0_0 Ncw0_1 Nfw0_1 Ncw0_2 Nfw0_2 Ncw0_3 Nfw0_3 Ncw0_4 Nfw0_4 Nx_0 Nx_0f Nx_1 Nx_1f Nx_2 Nx_2f Nx_3 Nx_3f Nx_4 Nx_4f; clear cw0_0 fw0_0 cw0_1 fw0_1 cw0_2 fw0_2 cw0_3 fw0_3 cw0_4 fw0_4 hy0; have cw0_0 := Ncw0_0; have fw0_0 := Nfw0_0; have cw0_1 := Ncw0_1; have fw0_1 := Nfw0_1; have cw0_2 := Ncw0_2; have fw0_2 := Nfw0_2; have cw0_3 := Ncw0_3; have fw0_3 := Nfw0_3; have cw0_4 := Ncw0_4; have fw0_4 := Nfw0_4; have x_0 := Nx_0; have x_0f := Nx_0f; have x_1 := Nx_1; have x_1f := Nx_1f; have x_2 := Nx_2; have x_2f := Nx_2f; have x_3 := Nx_3; have x_3f := Nx_3f; have x_4 := Nx_4; have x_4f := Nx_4f; have hy0 := Nhy0; have hy_x := Nhy_x; clear Ncw0_0 Nfw0_0 Ncw0_1 Nfw0_1 Ncw0_2 Nfw0_2 Ncw0_3 Nfw0_3 Ncw0_4 Nfw0_4 Nx_0 Nx_0f Nx_1 Nx_1f Nx_2 Nx_2f Nx_3 Nx_3f Nx_4 Nx_4f Nhy0 Nhy_x)
  have HS3 := Lib.hid (show Src w2x (w.heap.size + 1) from HS2.out.below (by rw [← hW]; (repeat' (first | (with_reducible exact Below.refl _ _) | (with_reducible assumption) | (with_reducible refine Below.alloc ?_ ?_ _) | (with_reducible refine Below.drew ?_) | (with_reducible refine Below.drewN' ?_ _) | (with_reducible refine Below.setCell ?_ ?_ _) | (refine Below.via ?_ (by with_reducible assumption) ?_) | (with_reducible refine Below.via ?_ (Wd.h _) ?_) | go_size))))
  have HB3 := Lib.hid (show Below w.heap.size w w2x by have h1 := HB2.out; rw [← hW]; (repeat' (first | (with_reducible exact Below.refl _ _) | (with_reducible assumption) | (with_reducible refine Below.alloc ?_ ?_ _) | (with_reducible refine Below.drew ?_) | (with_reducible refine Below.drewN' ?_ _) | (with_reducible refine Below.setCell ?_ ?_ _) | (refine Below.via ?_ (by with_reducible assumption) ?_) | (with_reducible refine Below.via ?_ (Wd.h _) ?_) | go_size)))
  clear hW
  refine wp_region_tab (R := Int × Int) (fun u => ⟨#[.slice A l.length c, undef, .pointer (some ⟨w.heap.size, 0, none⟩), u 19, .pointer (some ⟨w.heap.size + 1, 0, none⟩), .pointer (some ⟨w2.heap.size, 0, none⟩), .slice A l.length c, .pointer (some ⟨w.heap.size + 1, 0, none⟩), .pointer (some ⟨w.heap.size + 1, 0, none⟩), stV lo hi now i o, u 0, u 1, u 2, u 3, u 4, u 5, u 6, u 7, u 8, u 9, u 10, u 11, u 12, u 13, u 14, u 15, u 16, u 17], []⟩) (fun ρ j => ([.agg #[.int .i64 (lo), .int .i64 (hi), .int .i64 (now), .int .i64 (i), .int .i64 (o)], .pointer (some ⟨w2.heap.size, 0, none⟩), .int .i64 (lo), .pointer (some ⟨w.heap.size + 1, 0, none⟩), .pointer (some ⟨w2.heap.size, 1, none⟩), .int .i64 (hi), .pointer (some ⟨w2.heap.size, 0, none⟩), .int .i64 (lo), .int .i64 (hi - lo), .int .i64 (hi - lo + 1), .int .i64 ((if hi - lo + 1 < 1000 then hi - lo + 1 else 1000)), .int .i64 ((if 1 < (if hi - lo + 1 < 1000 then hi - lo + 1 else 1000) then (if hi - lo + 1 < 1000 then hi - lo + 1 else 1000) else 1)), .int .i64 (ρ.1), .int .i64 (lo + ρ.1), .pointer (some ⟨w.heap.size + 1, 0, none⟩), .int .i64 (ρ.2), .int .i64 (ρ.2 / 19), .int .i64 (lo + ρ.1 - ρ.2 / 19), undef, .int .i64 (lo + ρ.1 - ρ.2 / 19)] : List Value).getD j undef) (WF 12 15 18 (w.heap.size + 1) w.heap.size [.int .i64 (0), .int .i64 (0), .int .i64 (0), .int .i64 (0), .int .i64 (0)] [.int .i64 (lo), .int .i64 (hi), .int .i64 (now), .int .i64 (i), .int .i64 (o)] w2x) (by kernel_rfl) (by kernel_rfl) (fun j => if j = 19 then .int .i64 (0) else undef) rfl (0, 0) (WF.start (Keep.of_below _ (Below.drew (Below.refl _ _))) (HS3.out.below (Below.drew (Below.refl _ _))) (((bx5 (by first | exact hy0 | go_size) (by first | (with_reducible exact cw0_0) | go_cell_look | (simp [go_sem, hy0, cw0_0, fw0_0, cw0_1, fw0_1, cw0_2, fw0_2, cw0_3, fw0_3, cw0_4, fw0_4]; done) | (simp [go_sem]; done)) (by first | (with_reducible exact fw0_0) | (simp only [World.frozen?_setCell, fw0_0]; done) | (simp [go_sem, hy0, cw0_0, fw0_0, cw0_1, fw0_1, cw0_2, fw0_2, cw0_3, fw0_3, cw0_4, fw0_4]; done) | (simp [go_sem]; done)) (by first | (with_reducible exact cw0_1) | go_cell_look | (simp [go_sem, hy0, cw0_0, fw0_0, cw0_1, fw0_1, cw0_2, fw0_2, cw0_3, fw0_3, cw0_4, fw0_4]; done) | (simp [go_sem]; done)) (by first | (with_reducible exact fw0_1) | (simp only [World.frozen?_setCell, fw0_1]; done) | (simp [go_sem, hy0, cw0_0, fw0_0, cw0_1, fw0_1, cw0_2, fw0_2, cw0_3, fw0_3, cw0_4, fw0_4]; done) | (simp [go_sem]; done)) (by first | (with_reducible exact cw0_2) | go_cell_look | (simp [go_sem, hy0, cw0_0, fw0_0, cw0_1, fw0_1, cw0_2, fw0_2, cw0_3, fw0_3, cw0_4, fw0_4]; done) | (simp [go_sem]; done)) (by first | (with_reducible exact fw0_2) | (simp only [World.frozen?_setCell, fw0_2]; done) | (simp [go_sem, hy0, cw0_0, fw0_0, cw0_1, fw0_1, cw0_2, fw0_2, cw0_3, fw0_3, cw0_4, fw0_4]; done) | (simp [go_sem]; done)) (by first | (with_reducible exact cw0_3) | go_cell_look | (simp [go_sem, hy0, cw0_0, fw0_0, cw0_1, fw0_1, cw0_2, fw0_2, cw0_3, fw0_3, cw0_4, fw0_4]; done) | (simp [go_sem]; done)) (by first | (with_reducible exact fw0_3) | (simp only [World.frozen?_setCell, fw0_3]; done) | (simp [go_sem, hy0, cw0_0, fw0_0, cw0_1, fw0_1, cw0_2, fw0_2, cw0_3, fw0_3, cw0_4, fw0_4]; done) | (simp [go_sem]; done)) (by first | (with_reducible exact cw0_4) | go_cell_look | (simp [go_sem, hy0, cw0_0, fw0_0, cw0_1, fw0_1, cw0_2, fw0_2, cw0_3, fw0_3, cw0_4, fw0_4]; done) | (simp [go_sem]; done)) (by first | (with_reducible exact fw0_4) | (simp only [World.frozen?_setCell, fw0_4]; done) | (simp [go_sem, hy0, cw0_0, fw0_0, cw0_1, fw0_1, cw0_2, fw0_2, cw0_3, fw0_3, cw0_4, fw0_4]; done) | (simp [go_sem]; done))) : Bx w2x w.heap.size [.int .i64 (0), .int .i64 (0), .int .i64 (0), .int .i64 (0), .int .i64 (0)]).below (Below.drew (Below.refl _ _)) (by omega))) ?_ ?_
  · intro ii hii L ρ u wx hl hp hc hu hW
    have hii : ii < 20 := hii
    have hkp := hW.kp
    have hii : ii = 0 ∨ ii = 1 ∨ ii = 2 ∨ ii = 3 ∨ ii = 4 ∨ ii = 5 ∨ ii = 6 ∨ ii = 7 ∨ ii = 8 ∨ ii = 9 ∨ ii = 10 ∨ ii = 11 ∨ ii = 12 ∨ ii = 13 ∨ ii = 14 ∨ ii = 15 ∨ ii = 16 ∨ ii = 17 ∨ ii = 18 ∨ ii = 19 := by omega
    rcases hii with rfl | rfl | rfl | rfl | rfl | rfl | rfl | rfl | rfl | rfl | rfl | rfl | rfl | rfl | rfl | rfl | rfl | rfl | rfl | rfl
    · have yy0 := (hkp.cell w2.heap.size 0 (by omega) (by omega)).trans x_0
      have yy1 := (hkp.cell w2.heap.size 1 (by omega) (by omega)).trans x_1
      have yy2 := (hkp.cell w2.heap.size 2 (by omega) (by omega)).trans x_2
      have yy3 := (hkp.cell w2.heap.size 3 (by omega) (by omega)).trans x_3
      have yy4 := (hkp.cell w2.heap.size 4 (by omega) (by omega)).trans x_4
      refine wpOp_go (E := True) rfl rfl (fun K' hK => ?_)
      go_simp
      refine hK.out _ _ ⟨ρ, (by simp only [put]; rfl), fun _ _ => rfl, hW.pure (by omega) (by omega) (by omega)⟩
    · refine wpOp_go (E := True) rfl rfl (fun K' hK => ?_)
      go_simp
      refine hK.out _ _ ⟨ρ, (by simp only [put]; rfl), fun _ _ => rfl, hW.pure (by omega) (by omega) (by omega)⟩
    · have e1 : u 1 = .pointer (some ⟨w2.heap.size, 0, none⟩) := hu 1 (all_of hp (by kernel_rfl))
      have yy0 := (hkp.cell w2.heap.size 0 (by omega) (by omega)).trans x_0
      refine wpOp_go (E := True) rfl rfl (fun K' hK => ?_)
      go_simp
      refine hK.out _ _ ⟨ρ, (by simp only [put, e1]; rfl), fun _ _ => rfl, hW.pure (by omega) (by omega) (by omega)⟩
    · refine wpOp_go (E := True) rfl rfl (fun K' hK => ?_)
      go_simp
      refine hK.out _ _ ⟨ρ, (by simp only [put]; rfl), fun _ _ => rfl, hW.pure (by omega) (by omega) (by omega)⟩
    · refine wpOp_go (E := True) rfl rfl (fun K' hK => ?_)
      go_simp
      refine hK.out _ _ ⟨ρ, (by simp only [put]; rfl), fun _ _ => rfl, hW.pure (by omega) (by omega) (by omega)⟩
    · have e4 : u 4 = .pointer (some ⟨w2.heap.size, 1, none⟩) := hu 4 (all_of hp (by kernel_rfl))
      have yy1 := (hkp.cell w2.heap.size 1 (by omega) (by omega)).trans x_1
      refine wpOp_go (E := True) rfl rfl (fun K' hK => ?_)
      go_simp
      refine hK.out _ _ ⟨ρ, (by simp only [put, e4]; rfl), fun _ _ => rfl, hW.pure (by omega) (by omega) (by omega)⟩
    · refine wpOp_go (E := True) rfl rfl (fun K' hK => ?_)
      go_simp
      refine hK.out _ _ ⟨ρ, (by simp only [put]; rfl), fun _ _ => rfl, hW.pure (by omega) (by omega) (by omega)⟩
    · have e6 : u 6 = .pointer (some ⟨w2.heap.size, 0, none⟩) := hu 6 (all_of hp (by kernel_rfl))
      have yy0 := (hkp.cell w2.heap.size 0 (by omega) (by omega)).trans x_0
      refine wpOp_go (E := True) rfl rfl (fun K' hK => ?_)
      go_simp
      refine hK.out _ _ ⟨ρ, (by simp only [put, e6]; rfl), fun _ _ => rfl, hW.pure (by omega) (by omega) (by omega)⟩
    · have e5 : u 5 = .int .i64 (hi) := hu 5 (all_of hp (by kernel_rfl))
      have e7 : u 7 = .int .i64 (lo) := hu 7 (all_of hp (by kernel_rfl))
      have q1 : IntKind.i64.wrap (hi - lo) = hi - lo := IntWalk.i64_in _ (by omega)
      refine wpOp_go (E := True) rfl rfl (fun K' hK => ?_)
      go_simp
      refine hK.out _ _ ⟨ρ, (by simp only [put, e5, e7]; rfl), fun _ _ => rfl, hW.pure (by omega) (by omega) (by omega)⟩
    · have e8 : u 8 = .int .i64 (hi - lo) := hu 8 (all_of hp (by kernel_rfl))
      have q1 : IntKind.i64.wrap (hi - lo + 1) = hi - lo + 1 := IntWalk.i64_in _ (by omega)
      refine wpOp_go (E := True) rfl rfl (fun K' hK => ?_)
      go_simp
      refine hK.out _ _ ⟨ρ, (by simp only [put, e8]; rfl), fun _ _ => rfl, hW.pure (by omega) (by omega) (by omega)⟩
    · have e9 : u 9 = .int .i64 (hi - lo + 1) := hu 9 (all_of hp (by kernel_rfl))
      refine wpOp_go (E := True) rfl rfl (fun K' hK => ?_)
      go_simp
      refine hK.out _ _ ⟨ρ, (by simp only [put, e9]; rfl), fun _ _ => rfl, hW.pure (by omega) (by omega) (by omega)⟩
    · have e10 : u 10 = .int .i64 ((if hi - lo + 1 < 1000 then hi - lo + 1 else 1000)) := hu 10 (all_of hp (by kernel_rfl))
      refine wpOp_go (E := True) rfl rfl (fun K' hK => ?_)
      go_simp
      refine hK.out _ _ ⟨ρ, (by simp only [put, e10]; rfl), fun _ _ => rfl, hW.pure (by omega) (by omega) (by omega)⟩
    · have n15 : L 15 = false := no_later hc hl (by kernel_rfl)
      have hks : L 18 = false := no_later hc n15 (by kernel_rfl)
      have e3 : u 3 = .pointer (some ⟨w.heap.size + 1, 0, none⟩) := hu 3 (all_of hp (by kernel_rfl))
      have e11 : u 11 = .int .i64 ((if 1 < (if hi - lo + 1 < 1000 then hi - lo + 1 else 1000) then (if hi - lo + 1 < 1000 then hi - lo + 1 else 1000) else 1)) := hu 11 (all_of hp (by kernel_rfl))
      refine wpOp_go (E := True) rfl rfl (fun K' hK => ?_)
      go_simp
      go_at_call 19
      refine (spec_l01Next _ _ _ (hW.s0 hks) (by exact fN hi lo)).mono ?_
      rintro e' w5 ⟨r, rfl, ra, rz, rb, hs5, hk5⟩
      have rc : r ≤ 1000 := by by_cases h1 : (if 1 < (if hi - lo + 1 < 1000 then hi - lo + 1 else 1000) then (if hi - lo + 1 < 1000 then hi - lo + 1 else 1000) else 1) ≤ 1; (have := rz h1; omega); (have := rb (by omega); have := fN' hi lo; omega)
      refine hK.out _ _ ⟨(r, ρ.2), (by simp only [put, e3, e11]; rfl), fun j hj => by
            have n13 : L 13 = false := no_later hc hl (by kernel_rfl)
            have n17 : L 17 = false := no_later hc n13 (by kernel_rfl)
            have n19 : L 19 = false := no_later hc n17 (by kernel_rfl)
            match j, hj with
            | 0, _ => rfl
            | 1, _ => rfl
            | 2, _ => rfl
            | 3, _ => rfl
            | 4, _ => rfl
            | 5, _ => rfl
            | 6, _ => rfl
            | 7, _ => rfl
            | 8, _ => rfl
            | 9, _ => rfl
            | 10, _ => rfl
            | 11, _ => rfl
            | 12, hj => rw [hl] at hj; cases hj
            | 13, hj => rw [n13] at hj; cases hj
            | 14, _ => rfl
            | 15, _ => rfl
            | 16, _ => rfl
            | 17, hj => rw [n17] at hj; cases hj
            | 18, _ => rfl
            | 19, hj => rw [n19] at hj; cases hj
            | _ + 20, _ => rfl, hW.call1 (by omega) (by omega) (by omega) (by omega) hks hk5 hs5 ra rc⟩
    · have e2 : u 2 = .int .i64 (lo) := hu 2 (all_of hp (by kernel_rfl))
      have e12 : u 12 = .int .i64 (ρ.1) := hu 12 (all_of hp (by kernel_rfl))
      obtain ⟨ra, rb⟩ := hW.r1 (all_of hp (by kernel_rfl))
      have q1 : IntKind.i64.wrap (lo + ρ.1) = lo + ρ.1 := IntWalk.i64_in _ (by omega)
      refine wpOp_go (E := True) rfl rfl (fun K' hK => ?_)
      go_simp
      refine hK.out _ _ ⟨ρ, (by simp only [put, e2, e12]; rfl), fun _ _ => rfl, hW.pure (by omega) (by omega) (by omega)⟩
    · refine wpOp_go (E := True) rfl rfl (fun K' hK => ?_)
      go_simp
      refine hK.out _ _ ⟨ρ, (by simp only [put]; rfl), fun _ _ => rfl, hW.pure (by omega) (by omega) (by omega)⟩
    · have hks : L 18 = false := no_later hc hl (by kernel_rfl)
      have e14 : u 14 = .pointer (some ⟨w.heap.size + 1, 0, none⟩) := hu 14 (all_of hp (by kernel_rfl))
      refine wpOp_go (E := True) rfl rfl (fun K' hK => ?_)
      go_simp
      go_at_call 19
      refine (spec_l01Next _ _ _ (hW.s0 hks) (by omega)).mono ?_
      rintro e' w5 ⟨r, rfl, ra, rz, rb, hs5, hk5⟩
      have rc := rb (by omega)
      refine hK.out _ _ ⟨(ρ.1, r), (by simp only [put, e14]; rfl), fun j hj => by
            have n16 : L 16 = false := no_later hc hl (by kernel_rfl)
            have n17 : L 17 = false := no_later hc n16 (by kernel_rfl)
            have n19 : L 19 = false := no_later hc n17 (by kernel_rfl)
            match j, hj with
            | 0, _ => rfl
            | 1, _ => rfl
            | 2, _ => rfl
            | 3, _ => rfl
            | 4, _ => rfl
            | 5, _ => rfl
            | 6, _ => rfl
            | 7, _ => rfl
            | 8, _ => rfl
            | 9, _ => rfl
            | 10, _ => rfl
            | 11, _ => rfl
            | 12, _ => rfl
            | 13, _ => rfl
            | 14, _ => rfl
            | 15, hj => rw [hl] at hj; cases hj
            | 16, hj => rw [n16] at hj; cases hj
            | 17, hj => rw [n17] at hj; cases hj
            | 18, _ => rfl
            | 19, hj => rw [n19] at hj; cases hj
            | _ + 20, _ => rfl, hW.call2 (by omega) (by omega) (by omega) (by omega) hks hk5 hs5 ra (by omega)⟩
    · have e15 : u 15 = .int .i64 (ρ.2) := hu 15 (all_of hp (by kernel_rfl))
      obtain ⟨ra, rb⟩ := hW.r2 (all_of hp (by kernel_rfl))
      have q1 : Int.tdiv ρ.2 19 = ρ.2 / 19 := Int.tdiv_eq_ediv_of_nonneg ra
      have q2 : IntKind.i64.wrap (ρ.2 / 19) = ρ.2 / 19 := IntWalk.i64_in _ (by omega)
      refine wpOp_go (E := True) rfl rfl (fun K' hK => ?_)
      go_simp
      refine hK.out _ _ ⟨ρ, (by simp only [put, e15]; rfl), fun _ _ => rfl, hW.pure (by omega) (by omega) (by omega)⟩
    · have e13 : u 13 = .int .i64 (lo + ρ.1) := hu 13 (all_of hp (by kernel_rfl))
      have e16 : u 16 = .int .i64 (ρ.2 / 19) := hu 16 (all_of hp (by kernel_rfl))
      obtain ⟨ra, rb⟩ := hW.r1 (all_of (hc 13 (all_of hp (by kernel_rfl))) (by kernel_rfl))
      obtain ⟨rc, rd⟩ := hW.r2 (all_of (hc 16 (all_of hp (by kernel_rfl))) (by kernel_rfl))
      have q1 : IntKind.i64.wrap (lo + ρ.1 - ρ.2 / 19) = lo + ρ.1 - ρ.2 / 19 := IntWalk.i64_in _ (by omega)
      refine wpOp_go (E := True) rfl rfl (fun K' hK => ?_)
      go_simp
      refine hK.out _ _ ⟨ρ, (by simp only [put, e13, e16]; rfl), fun _ _ => rfl, hW.pure (by omega) (by omega) (by omega)⟩
    · have hks : L 18 = false := hl
      have e0 : u 0 = .agg #[.int .i64 (lo), .int .i64 (hi), .int .i64 (now), .int .i64 (i), .int .i64 (o)] := hu 0 (all_of hp (by kernel_rfl))
      have hbx := hW.b0 hks
      have xx0 := hbx.cell 0 rfl
      have xx1 := hbx.cell 1 rfl
      have xx2 := hbx.cell 2 rfl
      have xx3 := hbx.cell 3 rfl
      have xx4 := hbx.cell 4 rfl
      have xf0 := hbx.frozen 0 rfl
      have xf1 := hbx.frozen 1 rfl
      have xf2 := hbx.frozen 2 rfl
      have xf3 := hbx.frozen 3 rfl
      have xf4 := hbx.frozen 4 rfl
      have hyX := hbx.lt
      refine wpOp_go (E := True) rfl rfl (fun K' hK => ?_)
      go_simp
      refine hK.out _ _ ⟨ρ, (by simp only [put, e0]; rfl), fun _ _ => rfl, hW.store (by omega) (by omega) ((((((Keep.refl _ _).one _).one _).one _).one _).one _) (bx5 (by simp; omega) (by simp [go_sem, xx0, xx1, xx2, xx3, xx4]) (by simp [go_sem, xf0]) (by simp [go_sem, xx0, xx1, xx2, xx3, xx4]) (by simp [go_sem, xf1]) (by simp [go_sem, xx0, xx1, xx2, xx3, xx4]) (by simp [go_sem, xf2]) (by simp [go_sem, xx0, xx1, xx2, xx3, xx4]) (by simp [go_sem, xf3]) (by simp [go_sem, xx0, xx1, xx2, xx3, xx4]) (by simp [go_sem, xf4]))⟩
    · have e17 : u 17 = .int .i64 (lo + ρ.1 - ρ.2 / 19) := hu 17 (all_of hp (by kernel_rfl))
      refine wpOp_go (E := True) rfl rfl (fun K' hK => ?_)
      go_simp
      refine hK.out _ _ ⟨ρ, (by simp only [put, e17]; rfl), fun _ _ => rfl, hW.pure (by omega) (by omega) (by omega)⟩
  · intro L ρ u wx hall hu hW
    have hkp := hW.kp
    obtain ⟨ra, rb⟩ := hW.r1 (hall 12 (by show 12 < 20; omega))
    obtain ⟨rc, rd⟩ := hW.r2 (hall 15 (by show 15 < 20; omega))
    have hbx := hW.b1 (hall 18 (by show 18 < 20; omega))
    have ee : u 19 = .int .i64 (lo + ρ.1 - ρ.2 / 19) := hu 19 (by show 19 < 20; omega)
    have x0 := hbx.cell 0 rfl
    have x1 := hbx.cell 1 rfl
    have x2 := hbx.cell 2 rfl
    have x3 := hbx.cell 3 rfl
    have x4 := hbx.cell 4 rfl
    have hB5 : Below w.heap.size w wx := hkp.below HB3.out (by go_size) (by intro k hq; (try simp only at hq); omega)
    clear hW hkp hall hu hbx
    go_wp2
    refine bodyPost_ret (by simp [results, Try.results13, go_sem, ee, x0, x1, x2, x3, x4]; try rfl) rfl ?_
    exact ⟨⟨lo, hi, now, i, o⟩, lo + ρ.1 - ρ.2 / 19, rfl, HM.out, by omega, by omega, hB5⟩
end Go.Proofs.Ytioboahhiklolaa
