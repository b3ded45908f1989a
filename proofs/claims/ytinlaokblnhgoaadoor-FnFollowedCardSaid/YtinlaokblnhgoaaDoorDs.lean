/- Drawn stores. -/
import Derived.Test.YtinlaokblnhgoaaDoorRgt
import Derived.Test.YtinlaokblnhgoaaDoorA4
import Derived.Test.YtinlaokblnhgoaaDoorLI
import Derived.IntWalk
namespace Go.Proofs.YtinlaokblnhgoaaDoor
set_option linter.unusedVariables false
set_option linter.unusedSimpArgs false
open Go.RowKit
structure Sv where
  lo : Int
  hi : Int
  now : Int
  i : Int
  o : Int
def Sv.sm (s : Sv) : Prop := (-1000000002 ≤ s.lo ∧ s.lo ≤ 1000000002) ∧ (-1000000002 ≤ s.hi ∧ s.hi ≤ 1000000002) ∧ (-1000000002 ≤ s.now ∧ s.now ≤ 1000000002) ∧ (-1000000002 ≤ s.i ∧ s.i ≤ 1000000002) ∧ (-1000000002 ≤ s.o ∧ s.o ≤ 1000000002)
theorem Sv.mk_sm {a b c d e : Int} (a1 : -1000000002 ≤ a) (a2 : a ≤ 1000000002) (b1 : -1000000002 ≤ b) (b2 : b ≤ 1000000002) (c1 : -1000000002 ≤ c) (c2 : c ≤ 1000000002) (d1 : -1000000002 ≤ d) (d2 : d ≤ 1000000002) (e1 : -1000000002 ≤ e) (e2 : e ≤ 1000000002) : Sv.sm ⟨a, b, c, d, e⟩ := ⟨⟨a1, a2⟩, ⟨b1, b2⟩, ⟨c1, c2⟩, ⟨d1, d2⟩, ⟨e1, e2⟩⟩
def DrewS (w : World) (p : Nat) (e : Ending) (w' : World) : Prop :=
  ∃ s : Sv, e = .returned (stV s.lo s.hi s.now s.i s.o) ∧ s.sm ∧ Src w' p ∧ Keep (· = p) w w'
set_option maxRecDepth 100000 in
set_option maxHeartbeats 8000000 in
theorem l17_tail (w wx : World) (p X : Nat) (s : Sv) (hs : s.sm) (y0 y1 y2 y3 y4 : Value) (hp : p < w.heap.size) (hX : w.heap.size < X) (hbx : Bx wx X [.int .i64 s.lo, .int .i64 s.hi, .int .i64 s.now, .int .i64 s.i, .int .i64 s.o]) (hby : Bx wx w.heap.size [y0, y1, y2, y3, y4]) (hS : Src wx p) (hK : Keep (· = p) w wx) (v0 v1 v4 v5 v6 v7 v8 v9 v10 v11 v12 v13 v14 v15 v16 v17 v18 v19 v20 v21 v22 v23 v24 v25 v26 v27 v28 v29 v30 v31 v32 v33 v34 v35 v36 v37 v38 v39 v40 v41 v42 v43 v44 v45 v46 v47 v48 v49 v50 v51 v52 v53 v54 v55 v56 v57 v58 v59 v60 v61 v62 v63 v64 v65 v66 v67 v68 : Value) :
    Code.wp Tryd.prog ((Code.region 11 #[{ dst := some 68, op := Op.load 25 (Operand.tmp 3), type := 25, pos := "l17_stores.go:114", after := #[], guard := none }, { dst := none, op := Op.store 25 (Operand.tmp 2) (Operand.tmp 68), type := 0, pos := "l17_stores.go:114", after := #[{ on := 0, ground := Ground.data }, { on := 0, ground := Ground.phase }], guard := none }] false).seq Code.ret) (bodyPost Tryd.prog Tryd.f15 (DrewS w p)) ⟨#[v0, v1, .pointer (some ⟨w.heap.size, 0, none⟩), .pointer (some ⟨X, 0, none⟩), v4, v5, v6, v7, v8, v9, v10, v11, v12, v13, v14, v15, v16, v17, v18, v19, v20, v21, v22, v23, v24, v25, v26, v27, v28, v29, v30, v31, v32, v33, v34, v35, v36, v37, v38, v39, v40, v41, v42, v43, v44, v45, v46, v47, v48, v49, v50, v51, v52, v53, v54, v55, v56, v57, v58, v59, v60, v61, v62, v63, v64, v65, v66, v67, v68], []⟩ wx := by
  have HS := Lib.hid hS
  have HK := Lib.hid hK
  have HM := Lib.hid hs
  clear hS hK hs
  obtain ⟨s0, s1, s2, s3, s4⟩ := s
  have hy7 := hbx.lt; have cw7_0 := hbx.cell 0 rfl; have fw7_0 := hbx.frozen 0 rfl; have cw7_1 := hbx.cell 1 rfl; have fw7_1 := hbx.frozen 1 rfl; have cw7_2 := hbx.cell 2 rfl; have fw7_2 := hbx.frozen 2 rfl; have cw7_3 := hbx.cell 3 rfl; have fw7_3 := hbx.frozen 3 rfl; have cw7_4 := hbx.cell 4 rfl; have fw7_4 := hbx.frozen 4 rfl
  have hy0 := hby.lt; have cw0_0 := hby.cell 0 rfl; have fw0_0 := hby.frozen 0 rfl; have cw0_1 := hby.cell 1 rfl; have fw0_1 := hby.frozen 1 rfl; have cw0_2 := hby.cell 2 rfl; have fw0_2 := hby.frozen 2 rfl; have cw0_3 := hby.cell 3 rfl; have fw0_3 := hby.frozen 3 rfl; have cw0_4 := hby.cell 4 rfl; have fw0_4 := hby.frozen 4 rfl
  clear hbx hby
  go_wp2
  refine bodyPost_ret (by simp [results, Tryd.results15, go_sem, cw0_0, cw0_1, cw0_2, cw0_3, cw0_4]; try rfl) rfl ?_
  refine ⟨_, rfl, HM.out, HS.out.high (B := p + 1) (by (repeat' (first | (with_reducible exact Below.refl _ _) | (with_reducible assumption) | (with_reducible refine Below.alloc ?_ ?_ _) | (with_reducible refine Below.drew ?_) | (with_reducible refine Below.drewN' ?_ _) | (with_reducible refine Below.setCell ?_ ?_ _) | (refine Below.via ?_ (by with_reducible assumption) ?_) | (with_reducible refine Below.via ?_ (Wd.h _) ?_) | go_size))) (by omega), by have h1 := HK.out; (repeat' (first | (with_reducible exact Keep.refl _ _) | (with_reducible assumption) | (with_reducible refine Keep.alloc ?_ _) | (with_reducible refine Keep.drew ?_) | (with_reducible refine Keep.drewN ?_ _) | (refine Keep.trans ?_ (by with_reducible assumption)) | (refine Keep.via ?_ (by with_reducible assumption)) | (with_reducible refine Keep.new ?_ ?_ _) | go_size))⟩
set_option maxRecDepth 100000 in
set_option maxHeartbeats 8000000 in
theorem spec_l17Draw (p : Nat) (w : World) (h : Src w p) :
    Calls Tryd.prog 15 #[.pointer (some ⟨p, 0, none⟩)] w (DrewS w p) := by
  have hp := h.lt
  have HS := Lib.hid h
  clear h
  go_enter Tryd.func15, Tryd.ntmps15
  go_wp2_with fail
  refine (spec_l01Next p _ _ (HS.out.below (by (repeat' (first | (with_reducible exact Below.refl _ _) | (with_reducible assumption) | (with_reducible refine Below.alloc ?_ ?_ _) | (with_reducible refine Below.drew ?_) | (with_reducible refine Below.drewN' ?_ _) | (with_reducible refine Below.setCell ?_ ?_ _) | (refine Below.via ?_ (by with_reducible assumption) ?_) | (with_reducible refine Below.via ?_ (Wd.h _) ?_) | go_size)))) (by omega)).mono ?_
  rintro e w1 ⟨r1, rfl, ra1, _, rb1, hs1, hk1⟩
  have HS1 := Lib.hid hs1
  have rc1 := rb1 (by omega)
  clear hs1 rb1
  (have hz1 := hk1.size; (try simp at hz1); have Ncw0_0 := hk1.cell (w.heap.size) (0) (by first | omega | (simp; done) | (simp; omega)) (by intro hq; (try simp only at hq); omega); have Nfw0_0 := hk1.frozen (w.heap.size) (0) (by first | omega | (simp; done) | (simp; omega)) (by intro hq; (try simp only at hq); omega); have Nhy0 : w.heap.size < w1.heap.size := (by omega); have Ncw0_1 := hk1.cell (w.heap.size) (1) (by first | omega | (simp; done) | (simp; omega)) (by intro hq; (try simp only at hq); omega); have Nfw0_1 := hk1.frozen (w.heap.size) (1) (by first | omega | (simp; done) | (simp; omega)) (by intro hq; (try simp only at hq); omega); have Ncw0_2 := hk1.cell (w.heap.size) (2) (by first | omega | (simp; done) | (simp; omega)) (by intro hq; (try simp only at hq); omega); have Nfw0_2 := hk1.frozen (w.heap.size) (2) (by first | omega | (simp; done) | (simp; omega)) (by intro hq; (try simp only at hq); omega); have Ncw0_3 := hk1.cell (w.heap.size) (3) (by first | omega | (simp; done) | (simp; omega)) (by intro hq; (try simp only at hq); omega); have Nfw0_3 := hk1.frozen (w.heap.size) (3) (by first | omega | (simp; done) | (simp; omega)) (by intro hq; (try simp only at hq); omega); have Ncw0_4 := hk1.cell (w.heap.size) (4) (by first | omega | (simp; done) | (simp; omega)) (by intro hq; (try simp only at hq); omega); have Nfw0_4 := hk1.frozen (w.heap.size) (4) (by first | omega | (simp; done) | (simp; omega)) (by intro hq; (try simp only at hq); omega); simp [go_sem] at Ncw0_0 Nfw0_0 Ncw0_1 Nfw0_1 Ncw0_2 Nfw0_2 Ncw0_3 Nfw0_3 Ncw0_4 Nfw0_4; have cw0_0 := Ncw0_0; have fw0_0 := Nfw0_0; have cw0_1 := Ncw0_1; have fw0_1 := Nfw0_1; have cw0_2 := Ncw0_2; have fw0_2 := Nfw0_2; have cw0_3 := Ncw0_3; have fw0_3 := Nfw0_3; have cw0_4 := Ncw0_4; have fw0_4 := Nfw0_4; have hy0 := Nhy0; clear Ncw0_0 Nfw0_0 Ncw0_1 Nfw0_1 Ncw0_2 Nfw0_2 Ncw0_3 Nfw0_3 Ncw0_4 Nfw0_4 Nhy0)
  go_wp2_with fail
  refine (spec_l01Next p _ _ (HS1.out.below (by (repeat' (first | (with_reducible exact Below.refl _ _) | (with_reducible assumption) | (with_reducible refine Below.alloc ?_ ?_ _) | (with_reducible refine Below.drew ?_) | (with_reducible refine Below.drewN' ?_ _) | (with_reducible refine Below.setCell ?_ ?_ _) | (refine Below.via ?_ (by with_reducible assumption) ?_) | (with_reducible refine Below.via ?_ (Wd.h _) ?_) | go_size)))) (by omega)).mono ?_
  rintro e w2 ⟨r2, rfl, ra2, _, rb2, hs2, hk2⟩
  have HS2 := Lib.hid hs2
  have rc2 := rb2 (by omega)
  clear hs2 rb2
  (have hz2 := hk2.size; (try simp at hz2); have Ncw0_0 := hk2.cell (w.heap.size) (0) (by first | omega | (simp; done) | (simp; omega)) (by intro hq; (try simp only at hq); omega); have Nfw0_0 := hk2.frozen (w.heap.size) (0) (by first | omega | (simp; done) | (simp; omega)) (by intro hq; (try simp only at hq); omega); have Nhy0 : w.heap.size < w2.heap.size := (by omega); have Ncw0_1 := hk2.cell (w.heap.size) (1) (by first | omega | (simp; done) | (simp; omega)) (by intro hq; (try simp only at hq); omega); have Nfw0_1 := hk2.frozen (w.heap.size) (1) (by first | omega | (simp; done) | (simp; omega)) (by intro hq; (try simp only at hq); omega); have Ncw0_2 := hk2.cell (w.heap.size) (2) (by first | omega | (simp; done) | (simp; omega)) (by intro hq; (try simp only at hq); omega); have Nfw0_2 := hk2.frozen (w.heap.size) (2) (by first | omega | (simp; done) | (simp; omega)) (by intro hq; (try simp only at hq); omega); have Ncw0_3 := hk2.cell (w.heap.size) (3) (by first | omega | (simp; done) | (simp; omega)) (by intro hq; (try simp only at hq); omega); have Nfw0_3 := hk2.frozen (w.heap.size) (3) (by first | omega | (simp; done) | (simp; omega)) (by intro hq; (try simp only at hq); omega); have Ncw0_4 := hk2.cell (w.heap.size) (4) (by first | omega | (simp; done) | (simp; omega)) (by intro hq; (try simp only at hq); omega); have Nfw0_4 := hk2.frozen (w.heap.size) (4) (by first | omega | (simp; done) | (simp; omega)) (by intro hq; (try simp only at hq); omega); simp [go_sem, cw0_0, fw0_0, cw0_1, fw0_1, cw0_2, fw0_2, cw0_3, fw0_3, cw0_4, fw0_4, hy0] at Ncw0_0 Nfw0_0 Ncw0_1 Nfw0_1 Ncw0_2 Nfw0_2 Ncw0_3 Nfw0_3 Ncw0_4 Nfw0_4; clear cw0_0 fw0_0 cw0_1 fw0_1 cw0_2 fw0_2 cw0_3 fw0_3 cw0_4 fw0_4 hy0; have cw0_0 := Ncw0_0; have fw0_0 := Nfw0_0; have cw0_1 := Ncw0_1; have fw0_1 := Nfw0_1; have cw0_2 := Ncw0_2; have fw0_2 := Nfw0_2; have cw0_3 := Ncw0_3; have fw0_3 := Nfw0_3; have cw0_4 := Ncw0_4; have fw0_4 := Nfw0_4; have hy0 := Nhy0; clear Ncw0_0 Nfw0_0 Ncw0_1 Nfw0_1 Ncw0_2 Nfw0_2 Ncw0_3 Nfw0_3 Ncw0_4 Nfw0_4 Nhy0)
  go_wp2_with fail
  refine (spec_l01Next p _ _ (HS2.out.below (by (repeat' (first | (with_reducible exact Below.refl _ _) | (with_reducible assumption) | (with_reducible refine Below.alloc ?_ ?_ _) | (with_reducible refine Below.drew ?_) | (with_reducible refine Below.drewN' ?_ _) | (with_reducible refine Below.setCell ?_ ?_ _) | (refine Below.via ?_ (by with_reducible assumption) ?_) | (with_reducible refine Below.via ?_ (Wd.h _) ?_) | go_size)))) (by omega)).mono ?_
  rintro e w3 ⟨r3, rfl, ra3, _, rb3, hs3, hk3⟩
  have HS3 := Lib.hid hs3
  have rc3 := rb3 (by omega)
  clear hs3 rb3
  (have hz3 := hk3.size; (try simp at hz3); have Ncw0_0 := hk3.cell (w.heap.size) (0) (by first | omega | (simp; done) | (simp; omega)) (by intro hq; (try simp only at hq); omega); have Nfw0_0 := hk3.frozen (w.heap.size) (0) (by first | omega | (simp; done) | (simp; omega)) (by intro hq; (try simp only at hq); omega); have Nhy0 : w.heap.size < w3.heap.size := (by omega); have Ncw0_1 := hk3.cell (w.heap.size) (1) (by first | omega | (simp; done) | (simp; omega)) (by intro hq; (try simp only at hq); omega); have Nfw0_1 := hk3.frozen (w.heap.size) (1) (by first | omega | (simp; done) | (simp; omega)) (by intro hq; (try simp only at hq); omega); have Ncw0_2 := hk3.cell (w.heap.size) (2) (by first | omega | (simp; done) | (simp; omega)) (by intro hq; (try simp only at hq); omega); have Nfw0_2 := hk3.frozen (w.heap.size) (2) (by first | omega | (simp; done) | (simp; omega)) (by intro hq; (try simp only at hq); omega); have Ncw0_3 := hk3.cell (w.heap.size) (3) (by first | omega | (simp; done) | (simp; omega)) (by intro hq; (try simp only at hq); omega); have Nfw0_3 := hk3.frozen (w.heap.size) (3) (by first | omega | (simp; done) | (simp; omega)) (by intro hq; (try simp only at hq); omega); have Ncw0_4 := hk3.cell (w.heap.size) (4) (by first | omega | (simp; done) | (simp; omega)) (by intro hq; (try simp only at hq); omega); have Nfw0_4 := hk3.frozen (w.heap.size) (4) (by first | omega | (simp; done) | (simp; omega)) (by intro hq; (try simp only at hq); omega); simp [go_sem, cw0_0, fw0_0, cw0_1, fw0_1, cw0_2, fw0_2, cw0_3, fw0_3, cw0_4, fw0_4, hy0] at Ncw0_0 Nfw0_0 Ncw0_1 Nfw0_1 Ncw0_2 Nfw0_2 Ncw0_3 Nfw0_3 Ncw0_4 Nfw0_4; clear cw0_0 fw0_0 cw0_1 fw0_1 cw0_2 fw0_2 cw0_3 fw0_3 cw0_4 fw0_4 hy0; have cw0_0 := Ncw0_0; have fw0_0 := Nfw0_0; have cw0_1 := Ncw0_1; have fw0_1 := Nfw0_1; have cw0_2 := Ncw0_2; have fw0_2 := Nfw0_2; have cw0_3 := Ncw0_3; have fw0_3 := Nfw0_3; have cw0_4 := Ncw0_4; have fw0_4 := Nfw0_4; have hy0 := Nhy0; clear Ncw0_0 Nfw0_0 Ncw0_1 Nfw0_1 Ncw0_2 Nfw0_2 Ncw0_3 Nfw0_3 Ncw0_4 Nfw0_4 Nhy0)
  go_wp2_with fail
  
  (generalize hW : World.alloc w3 _ = v4; have hzn := congrArg (fun W => W.heap.size) hW; simp at hzn; have Ncw0_0 := congrArg (fun W => World.cell? W ⟨w.heap.size, 0, none⟩) hW.symm; have Nfw0_0 := congrArg (fun W => World.frozen? W ⟨w.heap.size, 0, none⟩) hW.symm; have Nhy0 : w.heap.size < v4.heap.size := (by omega); have Ncw0_1 := congrArg (fun W => World.cell? W ⟨w.heap.size, 1, none⟩) hW.symm; have Nfw0_1 := congrArg (fun W => World.frozen? W ⟨w.heap.size, 1, none⟩) hW.symm; have Ncw0_2 := congrArg (fun W => World.cell? W ⟨w.heap.size, 2, none⟩) hW.symm; have Nfw0_2 := congrArg (fun W => World.frozen? W ⟨w.heap.size, 2, none⟩) hW.symm; have Ncw0_3 := congrArg (fun W => World.cell? W ⟨w.heap.size, 3, none⟩) hW.symm; have Nfw0_3 := congrArg (fun W => World.frozen? W ⟨w.heap.size, 3, none⟩) hW.symm; have Ncw0_4 := congrArg (fun W => World.cell? W ⟨w.heap.size, 4, none⟩) hW.symm; have Nfw0_4 := congrArg (fun W => World.frozen? W ⟨w.heap.size, 4, none⟩) hW.symm; have Nx_0 := congrArg (fun W => World.cell? W ⟨w3.heap.size, 0, none⟩) hW.symm; have Nx_0f := congrArg (fun W => World.frozen? W ⟨w3.heap.size, 0, none⟩) hW.symm; have Nhy_x : w3.heap.size < v4.heap.size := (by omega); have Nx_1 := congrArg (fun W => World.cell? W ⟨w3.heap.size, 1, none⟩) hW.symm; have Nx_1f := congrArg (fun W => World.frozen? W ⟨w3.heap.size, 1, none⟩) hW.symm; have Nx_2 := congrArg (fun W => World.cell? W ⟨w3.heap.size, 2, none⟩) hW.symm; have Nx_2f := congrArg (fun W => World.frozen? W ⟨w3.heap.size, 2, none⟩) hW.symm; have Nx_3 := congrArg (fun W => World.cell? W ⟨w3.heap.size, 3, none⟩) hW.symm; have Nx_3f := congrArg (fun W => World.frozen? W ⟨w3.heap.size, 3, none⟩) hW.symm; have Nx_4 := congrArg (fun W => World.cell? W ⟨w3.heap.size, 4, none⟩) hW.symm; have Nx_4f := congrArg (fun W => World.frozen? W ⟨w3.heap.size, 4, none⟩) hW.symm; simp [go_sem, cw0_0, fw0_0, cw0_1, fw0_1, cw0_2, fw0_2, cw0_3, fw0_3, cw0_4, fw0_4, hy0] at Ncw0_0 Nfw0_0 Ncw0_1 Nfw0_1 Ncw0_2 Nfw0_2 Ncw0_3 Nfw0_3 Ncw0_4 Nfw0_4 Nx_0 Nx_0f Nx_1 Nx_1f Nx_2 Nx_2f Nx_3 Nx_3f Nx_4 Nx_4f; clear cw0_0 fw0_0 cw0_1 fw0_1 cw0_2 fw0_2 cw0_3 fw0_3 cw0_4 fw0_4 hy0; have cw0_0 := Ncw0_0; have fw0_0 := Nfw0_0; have cw0_1 := Ncw0_1; have fw0_1 := Nfw0_1; have cw0_2 := Ncw0_2; have fw0_2 := Nfw0_2; have cw0_3 := Ncw0_3; have fw0_3 := Nfw0_3; have cw0_4 := Ncw0_4; have fw0_4 := Nfw0_4; have x_0 := Nx_0; have x_0f := Nx_0f; have x_1 := Nx_1; have x_1f := Nx_1f; have x_2 := Nx_2; have x_2f := Nx_2f; have x_3 := Nx_3; have x_3f := Nx_3f; have x_4 := Nx_4; have x_4f := Nx_4f; have hy0 := Nhy0; have hy_x := Nhy_x; clear Ncw0_0 Nfw0_0 Ncw0_1 Nfw0_1 Ncw0_2 Nfw0_2 Ncw0_3 Nfw0_3 Ncw0_4 Nfw0_4 Nx_0 Nx_0f Nx_1 Nx_1f Nx_2 Nx_2f Nx_3 Nx_3f Nx_4 Nx_4f Nhy0 Nhy_x)
  have K4 : Hid (Keep (· = p) w v4) := Lib.hid (by rw [← hW]; (repeat' (first | (with_reducible exact Keep.refl _ _) | (with_reducible assumption) | (with_reducible refine Keep.alloc ?_ _) | (with_reducible refine Keep.drew ?_) | (with_reducible refine Keep.drewN ?_ _) | (refine Keep.trans ?_ (by with_reducible assumption)) | (refine Keep.via ?_ (by with_reducible assumption)) | (with_reducible refine Keep.new ?_ ?_ _) | go_size)))
  have HS4 := Lib.hid (show Src v4 p from HS3.out.below (by rw [← hW]; (repeat' (first | (with_reducible exact Below.refl _ _) | (with_reducible assumption) | (with_reducible refine Below.alloc ?_ ?_ _) | (with_reducible refine Below.drew ?_) | (with_reducible refine Below.drewN' ?_ _) | (with_reducible refine Below.setCell ?_ ?_ _) | (refine Below.via ?_ (by with_reducible assumption) ?_) | (with_reducible refine Below.via ?_ (Wd.h _) ?_) | go_size))))
  have hp4 := HS4.out.lt
  clear hW hk1 hk2 hk3
  have q1 : IntKind.i64.wrap (r1 + 1) = r1 + 1 := IntWalk.i64_in _ (by omega)
  (go_region_held3 (fun w' => w'.cell? ⟨w3.heap.size, 0, none⟩ = some (.int .i64 r1)) (first | exact ⟨x_0⟩ | (simp [go_sem, x_0]; done) | go_keep) ((go_at_call 16; refine (spec_l01Next p _ _ (HS4.out.below (by (repeat' (first | (with_reducible exact Below.refl _ _) | (with_reducible assumption) | (with_reducible refine Below.alloc ?_ ?_ _) | (with_reducible refine Below.drew ?_) | (with_reducible refine Below.drewN' ?_ _) | (with_reducible refine Below.setCell ?_ ?_ _) | (refine Below.via ?_ (by with_reducible assumption) ?_) | (with_reducible refine Below.via ?_ (Wd.h _) ?_) | go_size)))) (by omega)).mono ?_; rintro e w5 ⟨r5, rfl, ra5, _, rb5, hs5, hk5⟩; have HS5 := Lib.hid hs5; have rc5 := rb5 (by omega); clear hs5 rb5; (have hz5 := hk5.size; (try simp at hz5); have Ncw0_0 := hk5.cell (w.heap.size) (0) (by first | omega | (simp; done) | (simp; omega)) (by intro hq; (try simp only at hq); omega); have Nfw0_0 := hk5.frozen (w.heap.size) (0) (by first | omega | (simp; done) | (simp; omega)) (by intro hq; (try simp only at hq); omega); have Nhy0 : w.heap.size < w5.heap.size := (by omega); have Ncw0_1 := hk5.cell (w.heap.size) (1) (by first | omega | (simp; done) | (simp; omega)) (by intro hq; (try simp only at hq); omega); have Nfw0_1 := hk5.frozen (w.heap.size) (1) (by first | omega | (simp; done) | (simp; omega)) (by intro hq; (try simp only at hq); omega); have Ncw0_2 := hk5.cell (w.heap.size) (2) (by first | omega | (simp; done) | (simp; omega)) (by intro hq; (try simp only at hq); omega); have Nfw0_2 := hk5.frozen (w.heap.size) (2) (by first | omega | (simp; done) | (simp; omega)) (by intro hq; (try simp only at hq); omega); have Ncw0_3 := hk5.cell (w.heap.size) (3) (by first | omega | (simp; done) | (simp; omega)) (by intro hq; (try simp only at hq); omega); have Nfw0_3 := hk5.frozen (w.heap.size) (3) (by first | omega | (simp; done) | (simp; omega)) (by intro hq; (try simp only at hq); omega); have Ncw0_4 := hk5.cell (w.heap.size) (4) (by first | omega | (simp; done) | (simp; omega)) (by intro hq; (try simp only at hq); omega); have Nfw0_4 := hk5.frozen (w.heap.size) (4) (by first | omega | (simp; done) | (simp; omega)) (by intro hq; (try simp only at hq); omega); have Nx_0 := hk5.cell (w3.heap.size) (0) (by first | omega | (simp; done) | (simp; omega)) (by intro hq; (try simp only at hq); omega); have Nx_0f := hk5.frozen (w3.heap.size) (0) (by first | omega | (simp; done) | (simp; omega)) (by intro hq; (try simp only at hq); omega); have Nhy_x : w3.heap.size < w5.heap.size := (by omega); have Nx_1 := hk5.cell (w3.heap.size) (1) (by first | omega | (simp; done) | (simp; omega)) (by intro hq; (try simp only at hq); omega); have Nx_1f := hk5.frozen (w3.heap.size) (1) (by first | omega | (simp; done) | (simp; omega)) (by intro hq; (try simp only at hq); omega); have Nx_2 := hk5.cell (w3.heap.size) (2) (by first | omega | (simp; done) | (simp; omega)) (by intro hq; (try simp only at hq); omega); have Nx_2f := hk5.frozen (w3.heap.size) (2) (by first | omega | (simp; done) | (simp; omega)) (by intro hq; (try simp only at hq); omega); have Nx_3 := hk5.cell (w3.heap.size) (3) (by first | omega | (simp; done) | (simp; omega)) (by intro hq; (try simp only at hq); omega); have Nx_3f := hk5.frozen (w3.heap.size) (3) (by first | omega | (simp; done) | (simp; omega)) (by intro hq; (try simp only at hq); omega); have Nx_4 := hk5.cell (w3.heap.size) (4) (by first | omega | (simp; done) | (simp; omega)) (by intro hq; (try simp only at hq); omega); have Nx_4f := hk5.frozen (w3.heap.size) (4) (by first | omega | (simp; done) | (simp; omega)) (by intro hq; (try simp only at hq); omega); simp [go_sem, cw0_0, fw0_0, cw0_1, fw0_1, cw0_2, fw0_2, cw0_3, fw0_3, cw0_4, fw0_4, x_0, x_0f, x_1, x_1f, x_2, x_2f, x_3, x_3f, x_4, x_4f, hy0, hy_x] at Ncw0_0 Nfw0_0 Ncw0_1 Nfw0_1 Ncw0_2 Nfw0_2 Ncw0_3 Nfw0_3 Ncw0_4 Nfw0_4 Nx_0 Nx_0f Nx_1 Nx_1f Nx_2 Nx_2f Nx_3 Nx_3f Nx_4 Nx_4f; clear cw0_0 fw0_0 cw0_1 fw0_1 cw0_2 fw0_2 cw0_3 fw0_3 cw0_4 fw0_4 x_0 x_0f x_1 x_1f x_2 x_2f x_3 x_3f x_4 x_4f hy0 hy_x; have cw0_0 := Ncw0_0; have fw0_0 := Nfw0_0; have cw0_1 := Ncw0_1; have fw0_1 := Nfw0_1; have cw0_2 := Ncw0_2; have fw0_2 := Nfw0_2; have cw0_3 := Ncw0_3; have fw0_3 := Nfw0_3; have cw0_4 := Ncw0_4; have fw0_4 := Nfw0_4; have x_0 := Nx_0; have x_0f := Nx_0f; have x_1 := Nx_1; have x_1f := Nx_1f; have x_2 := Nx_2; have x_2f := Nx_2f; have x_3 := Nx_3; have x_3f := Nx_3f; have x_4 := Nx_4; have x_4f := Nx_4f; have hy0 := Nhy0; have hy_x := Nhy_x; clear Ncw0_0 Nfw0_0 Ncw0_1 Nfw0_1 Ncw0_2 Nfw0_2 Ncw0_3 Nfw0_3 Ncw0_4 Nfw0_4 Nx_0 Nx_0f Nx_1 Nx_1f Nx_2 Nx_2f Nx_3 Nx_3f Nx_4 Nx_4f Nhy0 Nhy_x); have q2 : IntKind.i64.wrap (r1 + 1 + r5) = r1 + 1 + r5 := IntWalk.i64_in _ (by omega))))
  go_wp2_with fail
  clear q1 q2
  generalize hH5 : r1 + 1 + r5 = H5 at *
  have h5a : r1 < H5 := by omega
  have h5b : H5 ≤ 800 := by omega
  clear hH5
  (generalize hW : World.setCell w5 _ _ = v6; have hzn := congrArg (fun W => W.heap.size) hW; simp at hzn; have Ncw0_0 := congrArg (fun W => World.cell? W ⟨w.heap.size, 0, none⟩) hW.symm; have Nfw0_0 := congrArg (fun W => World.frozen? W ⟨w.heap.size, 0, none⟩) hW.symm; have Nhy0 : w.heap.size < v6.heap.size := (by omega); have Ncw0_1 := congrArg (fun W => World.cell? W ⟨w.heap.size, 1, none⟩) hW.symm; have Nfw0_1 := congrArg (fun W => World.frozen? W ⟨w.heap.size, 1, none⟩) hW.symm; have Ncw0_2 := congrArg (fun W => World.cell? W ⟨w.heap.size, 2, none⟩) hW.symm; have Nfw0_2 := congrArg (fun W => World.frozen? W ⟨w.heap.size, 2, none⟩) hW.symm; have Ncw0_3 := congrArg (fun W => World.cell? W ⟨w.heap.size, 3, none⟩) hW.symm; have Nfw0_3 := congrArg (fun W => World.frozen? W ⟨w.heap.size, 3, none⟩) hW.symm; have Ncw0_4 := congrArg (fun W => World.cell? W ⟨w.heap.size, 4, none⟩) hW.symm; have Nfw0_4 := congrArg (fun W => World.frozen? W ⟨w.heap.size, 4, none⟩) hW.symm; have Nx_0 := congrArg (fun W => World.cell? W ⟨w3.heap.size, 0, none⟩) hW.symm; have Nx_0f := congrArg (fun W => World.frozen? W ⟨w3.heap.size, 0, none⟩) hW.symm; have Nhy_x : w3.heap.size < v6.heap.size := (by omega); have Nx_1 := congrArg (fun W => World.cell? W ⟨w3.heap.size, 1, none⟩) hW.symm; have Nx_1f := congrArg (fun W => World.frozen? W ⟨w3.heap.size, 1, none⟩) hW.symm; have Nx_2 := congrArg (fun W => World.cell? W ⟨w3.heap.size, 2, none⟩) hW.symm; have Nx_2f := congrArg (fun W => World.frozen? W ⟨w3.heap.size, 2, none⟩) hW.symm; have Nx_3 := congrArg (fun W => World.cell? W ⟨w3.heap.size, 3, none⟩) hW.symm; have Nx_3f := congrArg (fun W => World.frozen? W ⟨w3.heap.size, 3, none⟩) hW.symm; have Nx_4 := congrArg (fun W => World.cell? W ⟨w3.heap.size, 4, none⟩) hW.symm; have Nx_4f := congrArg (fun W => World.frozen? W ⟨w3.heap.size, 4, none⟩) hW.symm; simp [go_sem, cw0_0, fw0_0, cw0_1, fw0_1, cw0_2, fw0_2, cw0_3, fw0_3, cw0_4, fw0_4, x_0, x_0f, x_1, x_1f, x_2, x_2f, x_3, x_3f, x_4, x_4f, hy0, hy_x] at Ncw0_0 Nfw0_0 Ncw0_1 Nfw0_1 Ncw0_2 Nfw0_2 Ncw0_3 Nfw0_3 Ncw0_4 Nfw0_4 Nx_0 Nx_0f Nx_1 Nx_1f Nx_2 Nx_2f Nx_3 Nx_3f Nx_4 Nx_4f; clear cw0_0 fw0_0 cw0_1 fw0_1 cw0_2 fw0_2 cw0_3 fw0_3 cw0_4 fw0_4 x_0 x_0f x_1 x_1f x_2 x_2f x_3 x_3f x_4 x_4f hy0 hy_x; have cw0_0 := Ncw0_0; have fw0_0 := Nfw0_0; have cw0_1 := Ncw0_1; have fw0_1 := Nfw0_1; have cw0_2 := Ncw0_2; have fw0_2 := Nfw0_2; have cw0_3 := Ncw0_3; have fw0_3 := Nfw0_3; have cw0_4 := Ncw0_4; have fw0_4 := Nfw0_4; have x_0 := Nx_0; have x_0f := Nx_0f; have x_1 := Nx_1; have x_1f := Nx_1f; have x_2 := Nx_2; have x_2f := Nx_2f; have x_3 := Nx_3; have x_3f := Nx_3f; have x_4 := Nx_4; have x_4f := Nx_4f; have hy0 := Nhy0; have hy_x := Nhy_x; clear Ncw0_0 Nfw0_0 Ncw0_1 Nfw0_1 Ncw0_2 Nfw0_2 Ncw0_3 Nfw0_3 Ncw0_4 Nfw0_4 Nx_0 Nx_0f Nx_1 Nx_1f Nx_2 Nx_2f Nx_3 Nx_3f Nx_4 Nx_4f Nhy0 Nhy_x)
  have K6 : Hid (Keep (· = p) w v6) := Lib.hid (by have h1 := K4.out; rw [← hW]; (repeat' (first | (with_reducible exact Keep.refl _ _) | (with_reducible assumption) | (with_reducible refine Keep.alloc ?_ _) | (with_reducible refine Keep.drew ?_) | (with_reducible refine Keep.drewN ?_ _) | (refine Keep.trans ?_ (by with_reducible assumption)) | (refine Keep.via ?_ (by with_reducible assumption)) | (with_reducible refine Keep.new ?_ ?_ _) | go_size)))
  have HS6 := Lib.hid (show Src v6 p from HS5.out.high (B := p + 1) (by rw [← hW]; (repeat' (first | (with_reducible exact Below.refl _ _) | (with_reducible assumption) | (with_reducible refine Below.alloc ?_ ?_ _) | (with_reducible refine Below.drew ?_) | (with_reducible refine Below.drewN' ?_ _) | (with_reducible refine Below.setCell ?_ ?_ _) | (refine Below.via ?_ (by with_reducible assumption) ?_) | (with_reducible refine Below.via ?_ (Wd.h _) ?_) | go_size))) (by omega))
  clear hW hk5 K4 HS5
  have q1 : IntKind.i64.wrap (H5 - r1) = H5 - r1 := IntWalk.i64_in _ (by omega)
  have q2 : IntKind.i64.wrap (H5 - r1 + 1) = H5 - r1 + 1 := IntWalk.i64_in _ (by omega)
  (go_region_held3 (fun w' => w'.cell? ⟨w3.heap.size, 0, none⟩ = some (.int .i64 r1) ∧ w'.cell? ⟨w3.heap.size, 1, none⟩ = some (.int .i64 H5)) (first | exact ⟨x_0, x_1⟩ | (simp [go_sem, x_0, x_1]; done) | go_keep) ((go_at_call 16; refine (spec_l01Next p _ _ (HS6.out.below (by (repeat' (first | (with_reducible exact Below.refl _ _) | (with_reducible assumption) | (with_reducible refine Below.alloc ?_ ?_ _) | (with_reducible refine Below.drew ?_) | (with_reducible refine Below.drewN' ?_ _) | (with_reducible refine Below.setCell ?_ ?_ _) | (refine Below.via ?_ (by with_reducible assumption) ?_) | (with_reducible refine Below.via ?_ (Wd.h _) ?_) | go_size)))) (by omega)).mono ?_; rintro e w7 ⟨r7, rfl, ra7, _, rb7, hs7, hk7⟩; have HS7 := Lib.hid hs7; have rc7 := rb7 (by omega); clear hs7 rb7; (have hz7 := hk7.size; (try simp at hz7); have Ncw0_0 := hk7.cell (w.heap.size) (0) (by first | omega | (simp; done) | (simp; omega)) (by intro hq; (try simp only at hq); omega); have Nfw0_0 := hk7.frozen (w.heap.size) (0) (by first | omega | (simp; done) | (simp; omega)) (by intro hq; (try simp only at hq); omega); have Nhy0 : w.heap.size < w7.heap.size := (by omega); have Ncw0_1 := hk7.cell (w.heap.size) (1) (by first | omega | (simp; done) | (simp; omega)) (by intro hq; (try simp only at hq); omega); have Nfw0_1 := hk7.frozen (w.heap.size) (1) (by first | omega | (simp; done) | (simp; omega)) (by intro hq; (try simp only at hq); omega); have Ncw0_2 := hk7.cell (w.heap.size) (2) (by first | omega | (simp; done) | (simp; omega)) (by intro hq; (try simp only at hq); omega); have Nfw0_2 := hk7.frozen (w.heap.size) (2) (by first | omega | (simp; done) | (simp; omega)) (by intro hq; (try simp only at hq); omega); have Ncw0_3 := hk7.cell (w.heap.size) (3) (by first | omega | (simp; done) | (simp; omega)) (by intro hq; (try simp only at hq); omega); have Nfw0_3 := hk7.frozen (w.heap.size) (3) (by first | omega | (simp; done) | (simp; omega)) (by intro hq; (try simp only at hq); omega); have Ncw0_4 := hk7.cell (w.heap.size) (4) (by first | omega | (simp; done) | (simp; omega)) (by intro hq; (try simp only at hq); omega); have Nfw0_4 := hk7.frozen (w.heap.size) (4) (by first | omega | (simp; done) | (simp; omega)) (by intro hq; (try simp only at hq); omega); have Nx_0 := hk7.cell (w3.heap.size) (0) (by first | omega | (simp; done) | (simp; omega)) (by intro hq; (try simp only at hq); omega); have Nx_0f := hk7.frozen (w3.heap.size) (0) (by first | omega | (simp; done) | (simp; omega)) (by intro hq; (try simp only at hq); omega); have Nhy_x : w3.heap.size < w7.heap.size := (by omega); have Nx_1 := hk7.cell (w3.heap.size) (1) (by first | omega | (simp; done) | (simp; omega)) (by intro hq; (try simp only at hq); omega); have Nx_1f := hk7.frozen (w3.heap.size) (1) (by first | omega | (simp; done) | (simp; omega)) (by intro hq; (try simp only at hq); omega); have Nx_2 := hk7.cell (w3.heap.size) (2) (by first | omega | (simp; done) | (simp; omega)) (by intro hq; (try simp only at hq); omega); have Nx_2f := hk7.frozen (w3.heap.size) (2) (by first | omega | (simp; done) | (simp; omega)) (by intro hq; (try simp only at hq); omega); have Nx_3 := hk7.cell (w3.heap.size) (3) (by first | omega | (simp; done) | (simp; omega)) (by intro hq; (try simp only at hq); omega); have Nx_3f := hk7.frozen (w3.heap.size) (3) (by first | omega | (simp; done) | (simp; omega)) (by intro hq; (try simp only at hq); omega); have Nx_4 := hk7.cell (w3.heap.size) (4) (by first | omega | (simp; done) | (simp; omega)) (by intro hq; (try simp only at hq); omega); have Nx_4f := hk7.frozen (w3.heap.size) (4) (by first | omega | (simp; done) | (simp; omega)) (by intro hq; (try simp only at hq); omega); simp [go_sem, cw0_0, fw0_0, cw0_1, fw0_1, cw0_2, fw0_2, cw0_3, fw0_3, cw0_4, fw0_4, x_0, x_0f, x_1, x_1f, x_2, x_2f, x_3, x_3f, x_4, x_4f, hy0, hy_x] at Ncw0_0 Nfw0_0 Ncw0_1 Nfw0_1 Ncw0_2 Nfw0_2 Ncw0_3 Nfw0_3 Ncw0_4 Nfw0_4 Nx_0 Nx_0f Nx_1 Nx_1f Nx_2 Nx_2f Nx_3 Nx_3f Nx_4 Nx_4f; clear cw0_0 fw0_0 cw0_1 fw0_1 cw0_2 fw0_2 cw0_3 fw0_3 cw0_4 fw0_4 x_0 x_0f x_1 x_1f x_2 x_2f x_3 x_3f x_4 x_4f hy0 hy_x; have cw0_0 := Ncw0_0; have fw0_0 := Nfw0_0; have cw0_1 := Ncw0_1; have fw0_1 := Nfw0_1; have cw0_2 := Ncw0_2; have fw0_2 := Nfw0_2; have cw0_3 := Ncw0_3; have fw0_3 := Nfw0_3; have cw0_4 := Ncw0_4; have fw0_4 := Nfw0_4; have x_0 := Nx_0; have x_0f := Nx_0f; have x_1 := Nx_1; have x_1f := Nx_1f; have x_2 := Nx_2; have x_2f := Nx_2f; have x_3 := Nx_3; have x_3f := Nx_3f; have x_4 := Nx_4; have x_4f := Nx_4f; have hy0 := Nhy0; have hy_x := Nhy_x; clear Ncw0_0 Nfw0_0 Ncw0_1 Nfw0_1 Ncw0_2 Nfw0_2 Ncw0_3 Nfw0_3 Ncw0_4 Nfw0_4 Nx_0 Nx_0f Nx_1 Nx_1f Nx_2 Nx_2f Nx_3 Nx_3f Nx_4 Nx_4f Nhy0 Nhy_x); have q3 : IntKind.i64.wrap (r1 + r7) = r1 + r7 := IntWalk.i64_in _ (by omega))))
  go_wp2_with fail
  clear q1 q2 q3
  generalize hH7 : r1 + r7 = H7 at *
  have h7a : 0 ≤ H7 := by omega
  have h7b : H7 ≤ 2000 := by omega
  clear hH7 rc7 ra7
  (generalize hW : World.setCell w7 _ _ = v8; have hzn := congrArg (fun W => W.heap.size) hW; simp at hzn; have Ncw0_0 := congrArg (fun W => World.cell? W ⟨w.heap.size, 0, none⟩) hW.symm; have Nfw0_0 := congrArg (fun W => World.frozen? W ⟨w.heap.size, 0, none⟩) hW.symm; have Nhy0 : w.heap.size < v8.heap.size := (by omega); have Ncw0_1 := congrArg (fun W => World.cell? W ⟨w.heap.size, 1, none⟩) hW.symm; have Nfw0_1 := congrArg (fun W => World.frozen? W ⟨w.heap.size, 1, none⟩) hW.symm; have Ncw0_2 := congrArg (fun W => World.cell? W ⟨w.heap.size, 2, none⟩) hW.symm; have Nfw0_2 := congrArg (fun W => World.frozen? W ⟨w.heap.size, 2, none⟩) hW.symm; have Ncw0_3 := congrArg (fun W => World.cell? W ⟨w.heap.size, 3, none⟩) hW.symm; have Nfw0_3 := congrArg (fun W => World.frozen? W ⟨w.heap.size, 3, none⟩) hW.symm; have Ncw0_4 := congrArg (fun W => World.cell? W ⟨w.heap.size, 4, none⟩) hW.symm; have Nfw0_4 := congrArg (fun W => World.frozen? W ⟨w.heap.size, 4, none⟩) hW.symm; have Nx_0 := congrArg (fun W => World.cell? W ⟨w3.heap.size, 0, none⟩) hW.symm; have Nx_0f := congrArg (fun W => World.frozen? W ⟨w3.heap.size, 0, none⟩) hW.symm; have Nhy_x : w3.heap.size < v8.heap.size := (by omega); have Nx_1 := congrArg (fun W => World.cell? W ⟨w3.heap.size, 1, none⟩) hW.symm; have Nx_1f := congrArg (fun W => World.frozen? W ⟨w3.heap.size, 1, none⟩) hW.symm; have Nx_2 := congrArg (fun W => World.cell? W ⟨w3.heap.size, 2, none⟩) hW.symm; have Nx_2f := congrArg (fun W => World.frozen? W ⟨w3.heap.size, 2, none⟩) hW.symm; have Nx_3 := congrArg (fun W => World.cell? W ⟨w3.heap.size, 3, none⟩) hW.symm; have Nx_3f := congrArg (fun W => World.frozen? W ⟨w3.heap.size, 3, none⟩) hW.symm; have Nx_4 := congrArg (fun W => World.cell? W ⟨w3.heap.size, 4, none⟩) hW.symm; have Nx_4f := congrArg (fun W => World.frozen? W ⟨w3.heap.size, 4, none⟩) hW.symm; simp [go_sem, cw0_0, fw0_0, cw0_1, fw0_1, cw0_2, fw0_2, cw0_3, fw0_3, cw0_4, fw0_4, x_0, x_0f, x_1, x_1f, x_2, x_2f, x_3, x_3f, x_4, x_4f, hy0, hy_x] at Ncw0_0 Nfw0_0 Ncw0_1 Nfw0_1 Ncw0_2 Nfw0_2 Ncw0_3 Nfw0_3 Ncw0_4 Nfw0_4 Nx_0 Nx_0f Nx_1 Nx_1f Nx_2 Nx_2f Nx_3 Nx_3f Nx_4 Nx_4f; clear cw0_0 fw0_0 cw0_1 fw0_1 cw0_2 fw0_2 cw0_3 fw0_3 cw0_4 fw0_4 x_0 x_0f x_1 x_1f x_2 x_2f x_3 x_3f x_4 x_4f hy0 hy_x; have cw0_0 := Ncw0_0; have fw0_0 := Nfw0_0; have cw0_1 := Ncw0_1; have fw0_1 := Nfw0_1; have cw0_2 := Ncw0_2; have fw0_2 := Nfw0_2; have cw0_3 := Ncw0_3; have fw0_3 := Nfw0_3; have cw0_4 := Ncw0_4; have fw0_4 := Nfw0_4; have x_0 := Nx_0; have x_0f := Nx_0f; have x_1 := Nx_1; have x_1f := Nx_1f; have x_2 := Nx_2; have x_2f := Nx_2f; have x_3 := Nx_3; have x_3f := Nx_3f; have x_4 := Nx_4; have x_4f := Nx_4f; have hy0 := Nhy0; have hy_x := Nhy_x; clear Ncw0_0 Nfw0_0 Ncw0_1 Nfw0_1 Ncw0_2 Nfw0_2 Ncw0_3 Nfw0_3 Ncw0_4 Nfw0_4 Nx_0 Nx_0f Nx_1 Nx_1f Nx_2 Nx_2f Nx_3 Nx_3f Nx_4 Nx_4f Nhy0 Nhy_x)
  have K8 : Hid (Keep (· = p) w v8) := Lib.hid (by have h1 := K6.out; rw [← hW]; (repeat' (first | (with_reducible exact Keep.refl _ _) | (with_reducible assumption) | (with_reducible refine Keep.alloc ?_ _) | (with_reducible refine Keep.drew ?_) | (with_reducible refine Keep.drewN ?_ _) | (refine Keep.trans ?_ (by with_reducible assumption)) | (refine Keep.via ?_ (by with_reducible assumption)) | (with_reducible refine Keep.new ?_ ?_ _) | go_size)))
  have HS8 := Lib.hid (show Src v8 p from HS7.out.high (B := p + 1) (by rw [← hW]; (repeat' (first | (with_reducible exact Below.refl _ _) | (with_reducible assumption) | (with_reducible refine Below.alloc ?_ ?_ _) | (with_reducible refine Below.drew ?_) | (with_reducible refine Below.drewN' ?_ _) | (with_reducible refine Below.setCell ?_ ?_ _) | (refine Below.via ?_ (by with_reducible assumption) ?_) | (with_reducible refine Below.via ?_ (Wd.h _) ?_) | go_size))) (by omega))
  clear hW hk7 K6 HS7
  refine (spec_l01Next p _ _ (HS8.out.below (by (repeat' (first | (with_reducible exact Below.refl _ _) | (with_reducible assumption) | (with_reducible refine Below.alloc ?_ ?_ _) | (with_reducible refine Below.drew ?_) | (with_reducible refine Below.drewN' ?_ _) | (with_reducible refine Below.setCell ?_ ?_ _) | (refine Below.via ?_ (by with_reducible assumption) ?_) | (with_reducible refine Below.via ?_ (Wd.h _) ?_) | go_size)))) (by omega)).mono ?_
  rintro e w9 ⟨r9, rfl, ra9, _, rb9, hs9, hk9⟩
  have HS9 := Lib.hid hs9
  have rc9 := rb9 (by omega)
  clear hs9 rb9
  (have hz9 := hk9.size; (try simp at hz9); have Ncw0_0 := hk9.cell (w.heap.size) (0) (by first | omega | (simp; done) | (simp; omega)) (by intro hq; (try simp only at hq); omega); have Nfw0_0 := hk9.frozen (w.heap.size) (0) (by first | omega | (simp; done) | (simp; omega)) (by intro hq; (try simp only at hq); omega); have Nhy0 : w.heap.size < w9.heap.size := (by omega); have Ncw0_1 := hk9.cell (w.heap.size) (1) (by first | omega | (simp; done) | (simp; omega)) (by intro hq; (try simp only at hq); omega); have Nfw0_1 := hk9.frozen (w.heap.size) (1) (by first | omega | (simp; done) | (simp; omega)) (by intro hq; (try simp only at hq); omega); have Ncw0_2 := hk9.cell (w.heap.size) (2) (by first | omega | (simp; done) | (simp; omega)) (by intro hq; (try simp only at hq); omega); have Nfw0_2 := hk9.frozen (w.heap.size) (2) (by first | omega | (simp; done) | (simp; omega)) (by intro hq; (try simp only at hq); omega); have Ncw0_3 := hk9.cell (w.heap.size) (3) (by first | omega | (simp; done) | (simp; omega)) (by intro hq; (try simp only at hq); omega); have Nfw0_3 := hk9.frozen (w.heap.size) (3) (by first | omega | (simp; done) | (simp; omega)) (by intro hq; (try simp only at hq); omega); have Ncw0_4 := hk9.cell (w.heap.size) (4) (by first | omega | (simp; done) | (simp; omega)) (by intro hq; (try simp only at hq); omega); have Nfw0_4 := hk9.frozen (w.heap.size) (4) (by first | omega | (simp; done) | (simp; omega)) (by intro hq; (try simp only at hq); omega); have Nx_0 := hk9.cell (w3.heap.size) (0) (by first | omega | (simp; done) | (simp; omega)) (by intro hq; (try simp only at hq); omega); have Nx_0f := hk9.frozen (w3.heap.size) (0) (by first | omega | (simp; done) | (simp; omega)) (by intro hq; (try simp only at hq); omega); have Nhy_x : w3.heap.size < w9.heap.size := (by omega); have Nx_1 := hk9.cell (w3.heap.size) (1) (by first | omega | (simp; done) | (simp; omega)) (by intro hq; (try simp only at hq); omega); have Nx_1f := hk9.frozen (w3.heap.size) (1) (by first | omega | (simp; done) | (simp; omega)) (by intro hq; (try simp only at hq); omega); have Nx_2 := hk9.cell (w3.heap.size) (2) (by first | omega | (simp; done) | (simp; omega)) (by intro hq; (try simp only at hq); omega); have Nx_2f := hk9.frozen (w3.heap.size) (2) (by first | omega | (simp; done) | (simp; omega)) (by intro hq; (try simp only at hq); omega); have Nx_3 := hk9.cell (w3.heap.size) (3) (by first | omega | (simp; done) | (simp; omega)) (by intro hq; (try simp only at hq); omega); have Nx_3f := hk9.frozen (w3.heap.size) (3) (by first | omega | (simp; done) | (simp; omega)) (by intro hq; (try simp only at hq); omega); have Nx_4 := hk9.cell (w3.heap.size) (4) (by first | omega | (simp; done) | (simp; omega)) (by intro hq; (try simp only at hq); omega); have Nx_4f := hk9.frozen (w3.heap.size) (4) (by first | omega | (simp; done) | (simp; omega)) (by intro hq; (try simp only at hq); omega); simp [go_sem, cw0_0, fw0_0, cw0_1, fw0_1, cw0_2, fw0_2, cw0_3, fw0_3, cw0_4, fw0_4, x_0, x_0f, x_1, x_1f, x_2, x_2f, x_3, x_3f, x_4, x_4f, hy0, hy_x] at Ncw0_0 Nfw0_0 Ncw0_1 Nfw0_1 Ncw0_2 Nfw0_2 Ncw0_3 Nfw0_3 Ncw0_4 Nfw0_4 Nx_0 Nx_0f Nx_1 Nx_1f Nx_2 Nx_2f Nx_3 Nx_3f Nx_4 Nx_4f; clear cw0_0 fw0_0 cw0_1 fw0_1 cw0_2 fw0_2 cw0_3 fw0_3 cw0_4 fw0_4 x_0 x_0f x_1 x_1f x_2 x_2f x_3 x_3f x_4 x_4f hy0 hy_x; have cw0_0 := Ncw0_0; have fw0_0 := Nfw0_0; have cw0_1 := Ncw0_1; have fw0_1 := Nfw0_1; have cw0_2 := Ncw0_2; have fw0_2 := Nfw0_2; have cw0_3 := Ncw0_3; have fw0_3 := Nfw0_3; have cw0_4 := Ncw0_4; have fw0_4 := Nfw0_4; have x_0 := Nx_0; have x_0f := Nx_0f; have x_1 := Nx_1; have x_1f := Nx_1f; have x_2 := Nx_2; have x_2f := Nx_2f; have x_3 := Nx_3; have x_3f := Nx_3f; have x_4 := Nx_4; have x_4f := Nx_4f; have hy0 := Nhy0; have hy_x := Nhy_x; clear Ncw0_0 Nfw0_0 Ncw0_1 Nfw0_1 Ncw0_2 Nfw0_2 Ncw0_3 Nfw0_3 Ncw0_4 Nfw0_4 Nx_0 Nx_0f Nx_1 Nx_1f Nx_2 Nx_2f Nx_3 Nx_3f Nx_4 Nx_4f Nhy0 Nhy_x)
  have K9 : Hid (Keep (· = p) w w9) := Lib.hid (by have h1 := K8.out; (repeat' (first | (with_reducible exact Keep.refl _ _) | (with_reducible assumption) | (with_reducible refine Keep.alloc ?_ _) | (with_reducible refine Keep.drew ?_) | (with_reducible refine Keep.drewN ?_ _) | (refine Keep.trans ?_ (by with_reducible assumption)) | (refine Keep.via ?_ (by with_reducible assumption)) | (with_reducible refine Keep.new ?_ ?_ _) | go_size)))
  clear hk9
  by_cases e0 : r9 = 0
  · subst e0
    go_wp2_with fail
    have q1 : IntKind.i64.wrap (r1 - 1) = r1 - 1 := IntWalk.i64_in _ (by omega)
    have q2 : IntKind.i64.wrap (H5 + 1) = H5 + 1 := IntWalk.i64_in _ (by omega)
    refine wp_region_tab (R := Nat × Int) (fun u => ⟨#[.pointer (some ⟨p, 0, none⟩), undef, .pointer (some ⟨w.heap.size, 0, none⟩), .pointer (some ⟨w3.heap.size, 0, none⟩), .pointer (some ⟨p, 0, none⟩), .int .i64 (r1), .pointer (some ⟨p, 0, none⟩), .int .i64 (r2), .pointer (some ⟨p, 0, none⟩), .int .i64 (r3), .agg #[.int .i64 r1, .int .i64 0, .int .i64 0, .int .i64 r2, .int .i64 r3], .pointer (some ⟨w3.heap.size, 0, none⟩), .int .i64 (r1), .int .i64 (r1 + 1), .pointer (some ⟨p, 0, none⟩), .int .i64 (r5), .int .i64 (H5), .pointer (some ⟨w3.heap.size, 1, none⟩), .pointer (some ⟨w3.heap.size, 0, none⟩), .int .i64 (r1), .pointer (some ⟨p, 0, none⟩), .pointer (some ⟨w3.heap.size, 1, none⟩), .int .i64 (H5), .pointer (some ⟨w3.heap.size, 0, none⟩), .int .i64 (r1), .int .i64 (H5 - r1), .int .i64 (H5 - r1 + 1), .int .i64 (r7), .int .i64 (H7), .pointer (some ⟨w3.heap.size, 2, none⟩), .pointer (some ⟨p, 0, none⟩), .int .i64 (0), .bool true, .bool true, u 0, u 1, u 2, u 3, u 4, u 5, u 6, u 7, u 8, u 9, u 10, u 11, u 12, u 13, u 14, u 15, undef, undef, undef, undef, undef, undef, undef, undef, undef, undef, undef, undef, undef, undef, undef, undef, undef, undef, undef], []⟩) (fun ρ j => ([.pointer (some ⟨w3.heap.size, 0, none⟩), .int .i64 (r1), .int .i64 (r1 - 1), .pointer (some ⟨w3.heap.size, 0, none⟩), .int .i64 (r1), .pointer (some ⟨w3.heap.size, 1, none⟩), .int .i64 (H5), .pointer (some ⟨w3.heap.size, 1, none⟩), .int .i64 (H5), .int .i64 (H5 + 1), .slice (some ⟨ρ.1, 0, none⟩) 4 4, .pointer (some ⟨p, 0, none⟩), .int .i64 (ρ.2), .pointer (some ⟨ρ.1, ρ.2.toNat, none⟩), .int .i64 (pick [r1 - 1, r1, H5, H5 + 1] ρ.2.toNat), .pointer (some ⟨w3.heap.size, 2, none⟩), undef] : List Value).getD j undef) (WS 10 12 16 p (w3.heap.size) 4 [.int .i64 (r1), .int .i64 (H5), .int .i64 (H7), .int .i64 (r2), .int .i64 (r3)] (fun r => [.int .i64 (r1), .int .i64 (H5), .int .i64 (pick [r1 - 1, r1, H5, H5 + 1] r.toNat), .int .i64 (r2), .int .i64 (r3)]) [.int .i64 (r1 - 1), .int .i64 (r1), .int .i64 (H5), .int .i64 (H5 + 1)] w9) (by kernel_rfl) (by kernel_rfl) (fun j => undef) rfl (0, 0) (WS.start (Keep.of_below _ (Below.drew (Below.refl _ _))) (HS9.out.below (Below.drew (Below.refl _ _))) ((bx5 hy_x x_0 x_0f x_1 x_1f x_2 x_2f x_3 x_3f x_4 x_4f : Bx w9 w3.heap.size [.int .i64 (r1), .int .i64 (H5), .int .i64 (H7), .int .i64 (r2), .int .i64 (r3)]).below (Below.drew (Below.refl _ _)) (by omega))) ?_ ?_
    · intro i hi L ρ u wx hl hp hc hu hW
      have hi : i < 17 := hi
      have hkp := hW.kp
      have hi : i = 0 ∨ i = 1 ∨ i = 2 ∨ i = 3 ∨ i = 4 ∨ i = 5 ∨ i = 6 ∨ i = 7 ∨ i = 8 ∨ i = 9 ∨ i = 10 ∨ i = 11 ∨ i = 12 ∨ i = 13 ∨ i = 14 ∨ i = 15 ∨ i = 16 := by omega
      rcases hi with rfl | rfl | rfl | rfl | rfl | rfl | rfl | rfl | rfl | rfl | rfl | rfl | rfl | rfl | rfl | rfl | rfl
      · have hks : L 16 = false := no_later hc hl (by kernel_rfl)
        refine wpOp_go (E := True) rfl rfl (fun K' hK => ?_)
        go_simp
        refine hK.out _ _ ⟨ρ, (by simp only [put]; rfl), fun _ _ => rfl, hW.pure (by omega) (by omega) (by omega)⟩
      · have hks : L 16 = false := no_later hc hl (by kernel_rfl)
        have e0 : u 0 = .pointer (some ⟨w3.heap.size, 0, none⟩) := hu 0 (all_of hp (by kernel_rfl))
        have hbx := hW.b0 hks
        have xx0 := hbx.cell 0 rfl
        have xx1 := hbx.cell 1 rfl
        have xx2 := hbx.cell 2 rfl
        have xx3 := hbx.cell 3 rfl
        have xx4 := hbx.cell 4 rfl
        refine wpOp_go (E := True) rfl rfl (fun K' hK => ?_)
        go_simp
        refine hK.out _ _ ⟨ρ, (by simp only [put, e0]; rfl), fun _ _ => rfl, hW.pure (by omega) (by omega) (by omega)⟩
      · have hks : L 16 = false := no_later hc hl (by kernel_rfl)
        have e1 : u 1 = .int .i64 (r1) := hu 1 (all_of hp (by kernel_rfl))
        refine wpOp_go (E := True) rfl rfl (fun K' hK => ?_)
        go_simp
        refine hK.out _ _ ⟨ρ, (by simp only [put, e1]; rfl), fun _ _ => rfl, hW.pure (by omega) (by omega) (by omega)⟩
      · have hks : L 16 = false := no_later hc hl (by kernel_rfl)
        refine wpOp_go (E := True) rfl rfl (fun K' hK => ?_)
        go_simp
        refine hK.out _ _ ⟨ρ, (by simp only [put]; rfl), fun _ _ => rfl, hW.pure (by omega) (by omega) (by omega)⟩
      · have hks : L 16 = false := no_later hc hl (by kernel_rfl)
        have e3 : u 3 = .pointer (some ⟨w3.heap.size, 0, none⟩) := hu 3 (all_of hp (by kernel_rfl))
        have hbx := hW.b0 hks
        have xx0 := hbx.cell 0 rfl
        have xx1 := hbx.cell 1 rfl
        have xx2 := hbx.cell 2 rfl
        have xx3 := hbx.cell 3 rfl
        have xx4 := hbx.cell 4 rfl
        refine wpOp_go (E := True) rfl rfl (fun K' hK => ?_)
        go_simp
        refine hK.out _ _ ⟨ρ, (by simp only [put, e3]; rfl), fun _ _ => rfl, hW.pure (by omega) (by omega) (by omega)⟩
      · have hks : L 16 = false := no_later hc hl (by kernel_rfl)
        refine wpOp_go (E := True) rfl rfl (fun K' hK => ?_)
        go_simp
        refine hK.out _ _ ⟨ρ, (by simp only [put]; rfl), fun _ _ => rfl, hW.pure (by omega) (by omega) (by omega)⟩
      · have hks : L 16 = false := no_later hc hl (by kernel_rfl)
        have e5 : u 5 = .pointer (some ⟨w3.heap.size, 1, none⟩) := hu 5 (all_of hp (by kernel_rfl))
        have hbx := hW.b0 hks
        have xx0 := hbx.cell 0 rfl
        have xx1 := hbx.cell 1 rfl
        have xx2 := hbx.cell 2 rfl
        have xx3 := hbx.cell 3 rfl
        have xx4 := hbx.cell 4 rfl
        refine wpOp_go (E := True) rfl rfl (fun K' hK => ?_)
        go_simp
        refine hK.out _ _ ⟨ρ, (by simp only [put, e5]; rfl), fun _ _ => rfl, hW.pure (by omega) (by omega) (by omega)⟩
      · have hks : L 16 = false := no_later hc hl (by kernel_rfl)
        refine wpOp_go (E := True) rfl rfl (fun K' hK => ?_)
        go_simp
        refine hK.out _ _ ⟨ρ, (by simp only [put]; rfl), fun _ _ => rfl, hW.pure (by omega) (by omega) (by omega)⟩
      · have hks : L 16 = false := no_later hc hl (by kernel_rfl)
        have e7 : u 7 = .pointer (some ⟨w3.heap.size, 1, none⟩) := hu 7 (all_of hp (by kernel_rfl))
        have hbx := hW.b0 hks
        have xx0 := hbx.cell 0 rfl
        have xx1 := hbx.cell 1 rfl
        have xx2 := hbx.cell 2 rfl
        have xx3 := hbx.cell 3 rfl
        have xx4 := hbx.cell 4 rfl
        refine wpOp_go (E := True) rfl rfl (fun K' hK => ?_)
        go_simp
        refine hK.out _ _ ⟨ρ, (by simp only [put, e7]; rfl), fun _ _ => rfl, hW.pure (by omega) (by omega) (by omega)⟩
      · have hks : L 16 = false := no_later hc hl (by kernel_rfl)
        have e8 : u 8 = .int .i64 (H5) := hu 8 (all_of hp (by kernel_rfl))
        refine wpOp_go (E := True) rfl rfl (fun K' hK => ?_)
        go_simp
        refine hK.out _ _ ⟨ρ, (by simp only [put, e8]; rfl), fun _ _ => rfl, hW.pure (by omega) (by omega) (by omega)⟩
      · have hks : L 16 = false := no_later hc hl (by kernel_rfl)
        have e2 : u 2 = .int .i64 (r1 - 1) := hu 2 (all_of hp (by kernel_rfl))
        have e4 : u 4 = .int .i64 (r1) := hu 4 (all_of hp (by kernel_rfl))
        have e6 : u 6 = .int .i64 (H5) := hu 6 (all_of hp (by kernel_rfl))
        have e9 : u 9 = .int .i64 (H5 + 1) := hu 9 (all_of hp (by kernel_rfl))
        refine wpOp_go (E := True) rfl rfl (fun K' hK => ?_)
        go_simp
        refine hK.out _ _ ⟨(wx.heap.size, ρ.2), (by simp only [put, e2, e4, e6, e9]; rfl), fun j hj => by
              have n13 : L 13 = false := no_later hc hl (by kernel_rfl)
              have n14 : L 14 = false := no_later hc n13 (by kernel_rfl)
              have n16 : L 16 = false := no_later hc n14 (by kernel_rfl)
              match j, hj with
              | 0, _ => rfl
              | 1, _ => rfl
              | 2, _ => rfl
              | 3, _ => rfl
              | 4, _ => rfl
              | 5, _ => rfl
              | 6, _ => rfl
              | 7, _ => rfl
              | 8, _ => rfl
              | 9, _ => rfl
              | 10, hj => rw [hl] at hj; cases hj
              | 11, _ => rfl
              | 12, _ => rfl
              | 13, hj => rw [n13] at hj; cases hj
              | 14, hj => rw [n14] at hj; cases hj
              | 15, _ => rfl
              | 16, hj => rw [n16] at hj; cases hj
              | _ + 17, _ => rfl, hW.alloc (by omega) (by omega) (by (repeat' (first | (with_reducible exact Below.refl _ _) | (with_reducible assumption) | (with_reducible refine Below.alloc ?_ ?_ _) | (with_reducible refine Below.drew ?_) | (with_reducible refine Below.drewN' ?_ _) | (with_reducible refine Below.setCell ?_ ?_ _) | (refine Below.via ?_ (by with_reducible assumption) ?_) | (with_reducible refine Below.via ?_ (Wd.h _) ?_) | go_size))) (bx4 (by simp) (by simp) (by simp) (by simp) (by simp) (by simp) (by simp) (by simp) (by simp))⟩
      · have hks : L 16 = false := no_later hc hl (by kernel_rfl)
        refine wpOp_go (E := True) rfl rfl (fun K' hK => ?_)
        go_simp
        refine hK.out _ _ ⟨ρ, (by simp only [put]; rfl), fun _ _ => rfl, hW.pure (by omega) (by omega) (by omega)⟩
      · have hks : L 16 = false := no_later hc hl (by kernel_rfl)
        have e11 : u 11 = .pointer (some ⟨p, 0, none⟩) := hu 11 (all_of hp (by kernel_rfl))
        refine wpOp_go (E := True) rfl rfl (fun K' hK => ?_)
        go_simp
        go_at_call 16
        refine (spec_l01Next _ _ _ (hW.s0 hks) (by omega)).mono ?_
        rintro e' w5 ⟨r, rfl, ra, _, rb, hs5, hk5⟩
        have rc := rb (by omega)
        refine hK.out _ _ ⟨(ρ.1, r), (by simp only [put, e11]; rfl), fun j hj => by
              have n13 : L 13 = false := no_later hc hl (by kernel_rfl)
              have n14 : L 14 = false := no_later hc n13 (by kernel_rfl)
              have n16 : L 16 = false := no_later hc n14 (by kernel_rfl)
              match j, hj with
              | 0, _ => rfl
              | 1, _ => rfl
              | 2, _ => rfl
              | 3, _ => rfl
              | 4, _ => rfl
              | 5, _ => rfl
              | 6, _ => rfl
              | 7, _ => rfl
              | 8, _ => rfl
              | 9, _ => rfl
              | 10, _ => rfl
              | 11, _ => rfl
              | 12, hj => rw [hl] at hj; cases hj
              | 13, hj => rw [n13] at hj; cases hj
              | 14, hj => rw [n14] at hj; cases hj
              | 15, _ => rfl
              | 16, hj => rw [n16] at hj; cases hj
              | _ + 17, _ => rfl, hW.call (by omega) (by omega) (by omega) (by omega) hks hk5 hs5 ra rc⟩
      · have hks : L 16 = false := no_later hc hl (by kernel_rfl)
        have e10 : u 10 = .slice (some ⟨ρ.1, 0, none⟩) 4 4 := hu 10 (all_of hp (by kernel_rfl))
        have e12 : u 12 = .int .i64 (ρ.2) := hu 12 (all_of hp (by kernel_rfl))
        obtain ⟨ra, rb⟩ := hW.rr (all_of hp (by kernel_rfl))
        have rn : ρ.2.toNat < 4 := by omega
        refine wpOp_go (E := True) rfl rfl (fun K' hK => ?_)
        go_simp
        refine hK.out _ _ ⟨ρ, (by simp only [put, e10, e12]; rfl), fun _ _ => rfl, hW.pure (by omega) (by omega) (by omega)⟩
      · have hks : L 16 = false := no_later hc hl (by kernel_rfl)
        have e13 : u 13 = .pointer (some ⟨ρ.1, ρ.2.toNat, none⟩) := hu 13 (all_of hp (by kernel_rfl))
        obtain ⟨ra, rb⟩ := hW.rr (all_of (hc 13 (all_of hp (by kernel_rfl))) (by kernel_rfl))
        have rn : ρ.2.toNat < 4 := by omega
        obtain ⟨hg, hga⟩ := hW.ar (all_of (hc 13 (all_of hp (by kernel_rfl))) (by kernel_rfl))
        have hgx := hga.cell ρ.2.toNat (pickL4 (r1 - 1) r1 H5 (H5 + 1) ρ.2.toNat rn)
        refine wpOp_go (E := True) rfl rfl (fun K' hK => ?_)
        go_simp
        refine hK.out _ _ ⟨ρ, (by simp only [put, e13]; rfl), fun _ _ => rfl, hW.pure (by omega) (by omega) (by omega)⟩
      · have hks : L 16 = false := no_later hc hl (by kernel_rfl)
        refine wpOp_go (E := True) rfl rfl (fun K' hK => ?_)
        go_simp
        refine hK.out _ _ ⟨ρ, (by simp only [put]; rfl), fun _ _ => rfl, hW.pure (by omega) (by omega) (by omega)⟩
      · have hks : L 16 = false := hl
        have e15 : u 15 = .pointer (some ⟨w3.heap.size, 2, none⟩) := hu 15 (all_of hp (by kernel_rfl))
        have e14 : u 14 = .int .i64 (pick [r1 - 1, r1, H5, H5 + 1] ρ.2.toNat) := hu 14 (all_of hp (by kernel_rfl))
        have hbx := hW.b0 hks
        have xx0 := hbx.cell 0 rfl
        have xx1 := hbx.cell 1 rfl
        have xx2 := hbx.cell 2 rfl
        have xx3 := hbx.cell 3 rfl
        have xx4 := hbx.cell 4 rfl
        have xf0 := hbx.frozen 0 rfl
        have xf1 := hbx.frozen 1 rfl
        have xf2 := hbx.frozen 2 rfl
        have xf3 := hbx.frozen 3 rfl
        have xf4 := hbx.frozen 4 rfl
        have hyX := hbx.lt
        refine wpOp_go (E := True) rfl rfl (fun K' hK => ?_)
        go_simp
        refine hK.out _ _ ⟨ρ, (by simp only [put, e15, e14]; rfl), fun _ _ => rfl, hW.store (by omega) (by omega) hks (by omega) ((Keep.refl _ _).one _) (fun _ => by (repeat' (first | (with_reducible exact Below.refl _ _) | (with_reducible assumption) | (with_reducible refine Below.alloc ?_ ?_ _) | (with_reducible refine Below.drew ?_) | (with_reducible refine Below.drewN' ?_ _) | (with_reducible refine Below.setCell ?_ ?_ _) | (refine Below.via ?_ (by with_reducible assumption) ?_) | (with_reducible refine Below.via ?_ (Wd.h _) ?_) | go_size))) (bx5 (by simp; omega) (by simp [go_sem, xx0]) (by simp [go_sem, xf0]) (by simp [go_sem, xx1]) (by simp [go_sem, xf1]) (by simp [go_sem, xx2]) (by simp [go_sem, xf2]) (by simp [go_sem, xx3]) (by simp [go_sem, xf3]) (by simp [go_sem, xx4]) (by simp [go_sem, xf4]))⟩
    · intro L ρ u wx hall hu hW
      have hkp := hW.kp
      obtain ⟨ra, rb⟩ := hW.rr (hall 12 (by show 12 < 17; omega))
      have hbx := hW.b1 (hall 16 (by show 16 < 17; omega))
      have hs1 := hW.s1 (hall 16 (by show 16 < 17; omega))
      have hpb := pick_bd (lo := -1000) (hi := 1000) (by omega) (by omega) [r1 - 1, r1, H5, H5 + 1] (by simp; omega) ρ.2.toNat
      have hby := (show Bx w9 w.heap.size [.int .i64 0, .int .i64 0, .int .i64 0, .int .i64 0, .int .i64 0] from (bx5 (by first | exact hy0 | go_size) (by first | (with_reducible exact cw0_0) | go_cell_look | (simp [go_sem, hy0, cw0_0, fw0_0, cw0_1, fw0_1, cw0_2, fw0_2, cw0_3, fw0_3, cw0_4, fw0_4]; done) | (simp [go_sem]; done)) (by first | (with_reducible exact fw0_0) | (simp only [World.frozen?_setCell, fw0_0]; done) | (simp [go_sem, hy0, cw0_0, fw0_0, cw0_1, fw0_1, cw0_2, fw0_2, cw0_3, fw0_3, cw0_4, fw0_4]; done) | (simp [go_sem]; done)) (by first | (with_reducible exact cw0_1) | go_cell_look | (simp [go_sem, hy0, cw0_0, fw0_0, cw0_1, fw0_1, cw0_2, fw0_2, cw0_3, fw0_3, cw0_4, fw0_4]; done) | (simp [go_sem]; done)) (by first | (with_reducible exact fw0_1) | (simp only [World.frozen?_setCell, fw0_1]; done) | (simp [go_sem, hy0, cw0_0, fw0_0, cw0_1, fw0_1, cw0_2, fw0_2, cw0_3, fw0_3, cw0_4, fw0_4]; done) | (simp [go_sem]; done)) (by first | (with_reducible exact cw0_2) | go_cell_look | (simp [go_sem, hy0, cw0_0, fw0_0, cw0_1, fw0_1, cw0_2, fw0_2, cw0_3, fw0_3, cw0_4, fw0_4]; done) | (simp [go_sem]; done)) (by first | (with_reducible exact fw0_2) | (simp only [World.frozen?_setCell, fw0_2]; done) | (simp [go_sem, hy0, cw0_0, fw0_0, cw0_1, fw0_1, cw0_2, fw0_2, cw0_3, fw0_3, cw0_4, fw0_4]; done) | (simp [go_sem]; done)) (by first | (with_reducible exact cw0_3) | go_cell_look | (simp [go_sem, hy0, cw0_0, fw0_0, cw0_1, fw0_1, cw0_2, fw0_2, cw0_3, fw0_3, cw0_4, fw0_4]; done) | (simp [go_sem]; done)) (by first | (with_reducible exact fw0_3) | (simp only [World.frozen?_setCell, fw0_3]; done) | (simp [go_sem, hy0, cw0_0, fw0_0, cw0_1, fw0_1, cw0_2, fw0_2, cw0_3, fw0_3, cw0_4, fw0_4]; done) | (simp [go_sem]; done)) (by first | (with_reducible exact cw0_4) | go_cell_look | (simp [go_sem, hy0, cw0_0, fw0_0, cw0_1, fw0_1, cw0_2, fw0_2, cw0_3, fw0_3, cw0_4, fw0_4]; done) | (simp [go_sem]; done)) (by first | (with_reducible exact fw0_4) | (simp only [World.frozen?_setCell, fw0_4]; done) | (simp [go_sem, hy0, cw0_0, fw0_0, cw0_1, fw0_1, cw0_2, fw0_2, cw0_3, fw0_3, cw0_4, fw0_4]; done) | (simp [go_sem]; done))))
      have hby : Bx wx w.heap.size [.int .i64 0, .int .i64 0, .int .i64 0, .int .i64 0, .int .i64 0] := ⟨Nat.lt_of_lt_of_le hby.1 hkp.size, fun q v e => ⟨(hkp.cell w.heap.size q hby.1 (by omega)).trans (hby.2 q v e).1, (hkp.frozen w.heap.size q hby.1 (by omega)).trans (hby.2 q v e).2⟩⟩
      exact (‹∀ (a : Act) (w_1 : World), Code.wp Tryd.prog _ _ a w_1 → _› : ∀ (a : Act) (w_1 : World), Code.wp Tryd.prog _ _ a w_1 → _) _ _ (l17_tail w wx p w3.heap.size ⟨r1, H5, pick [r1 - 1, r1, H5, H5 + 1] ρ.2.toNat, r2, r3⟩ (Sv.mk_sm (by omega) (by omega) (by omega) (by omega) (by omega) (by omega) (by omega) (by omega) (by omega) (by omega)) _ _ _ _ _ (by omega) (by omega) hbx hby (hs1 (by omega)) (K9.out.to hkp (by omega)) _ _ _ _ _ _ _ _ _ _ _ _ _ _ _ _ _ _ _ _ _ _ _ _ _ _ _ _ _ _ _ _ _ _ _ _ _ _ _ _ _ _ _ _ _ _ _ _ _ _ _ _ _ _ _ _ _ _ _ _ _ _ _ _ _ _ _)
  by_cases e1 : r9 = 1
  · subst e1
    go_wp2_with fail
    refine wp_region_tab (R := Nat × Int) (fun u => ⟨#[.pointer (some ⟨p, 0, none⟩), undef, .pointer (some ⟨w.heap.size, 0, none⟩), .pointer (some ⟨w3.heap.size, 0, none⟩), .pointer (some ⟨p, 0, none⟩), .int .i64 (r1), .pointer (some ⟨p, 0, none⟩), .int .i64 (r2), .pointer (some ⟨p, 0, none⟩), .int .i64 (r3), .agg #[.int .i64 r1, .int .i64 0, .int .i64 0, .int .i64 r2, .int .i64 r3], .pointer (some ⟨w3.heap.size, 0, none⟩), .int .i64 (r1), .int .i64 (r1 + 1), .pointer (some ⟨p, 0, none⟩), .int .i64 (r5), .int .i64 (H5), .pointer (some ⟨w3.heap.size, 1, none⟩), .pointer (some ⟨w3.heap.size, 0, none⟩), .int .i64 (r1), .pointer (some ⟨p, 0, none⟩), .pointer (some ⟨w3.heap.size, 1, none⟩), .int .i64 (H5), .pointer (some ⟨w3.heap.size, 0, none⟩), .int .i64 (r1), .int .i64 (H5 - r1), .int .i64 (H5 - r1 + 1), .int .i64 (r7), .int .i64 (H7), .pointer (some ⟨w3.heap.size, 2, none⟩), .pointer (some ⟨p, 0, none⟩), .int .i64 (1), .bool false, .bool false, undef, undef, undef, undef, undef, undef, undef, undef, undef, undef, undef, undef, undef, undef, undef, undef, .bool true, .bool true, u 0, u 1, u 2, u 3, u 4, u 5, u 6, u 7, undef, undef, undef, undef, undef, undef, undef, undef, undef], []⟩) (fun ρ j => ([.pointer (some ⟨w3.heap.size, 0, none⟩), .int .i64 (r1), .slice (some ⟨ρ.1, 0, none⟩) 3 3, .pointer (some ⟨p, 0, none⟩), .int .i64 (ρ.2), .pointer (some ⟨ρ.1, ρ.2.toNat, none⟩), .int .i64 (pick [r1, 1000000000, 1000000001] ρ.2.toNat), .pointer (some ⟨w3.heap.size, 1, none⟩), undef] : List Value).getD j undef) (WS 2 4 8 p (w3.heap.size) 3 [.int .i64 (r1), .int .i64 (H5), .int .i64 (H7), .int .i64 (r2), .int .i64 (r3)] (fun r => [.int .i64 (r1), .int .i64 (pick [r1, 1000000000, 1000000001] r.toNat), .int .i64 (H7), .int .i64 (r2), .int .i64 (r3)]) [.int .i64 (r1), .int .i64 (1000000000), .int .i64 (1000000001)] w9) (by kernel_rfl) (by kernel_rfl) (fun j => undef) rfl (0, 0) (WS.start (Keep.of_below _ (Below.drew (Below.refl _ _))) (HS9.out.below (Below.drew (Below.refl _ _))) ((bx5 hy_x x_0 x_0f x_1 x_1f x_2 x_2f x_3 x_3f x_4 x_4f : Bx w9 w3.heap.size [.int .i64 (r1), .int .i64 (H5), .int .i64 (H7), .int .i64 (r2), .int .i64 (r3)]).below (Below.drew (Below.refl _ _)) (by omega))) ?_ ?_
    · intro i hi L ρ u wx hl hp hc hu hW
      have hi : i < 9 := hi
      have hkp := hW.kp
      have hi : i = 0 ∨ i = 1 ∨ i = 2 ∨ i = 3 ∨ i = 4 ∨ i = 5 ∨ i = 6 ∨ i = 7 ∨ i = 8 := by omega
      rcases hi with rfl | rfl | rfl | rfl | rfl | rfl | rfl | rfl | rfl
      · have hks : L 8 = false := no_later hc hl (by kernel_rfl)
        refine wpOp_go (E := True) rfl rfl (fun K' hK => ?_)
        go_simp
        refine hK.out _ _ ⟨ρ, (by simp only [put]; rfl), fun _ _ => rfl, hW.pure (by omega) (by omega) (by omega)⟩
      · have hks : L 8 = false := no_later hc hl (by kernel_rfl)
        have e0 : u 0 = .pointer (some ⟨w3.heap.size, 0, none⟩) := hu 0 (all_of hp (by kernel_rfl))
        have hbx := hW.b0 hks
        have xx0 := hbx.cell 0 rfl
        have xx1 := hbx.cell 1 rfl
        have xx2 := hbx.cell 2 rfl
        have xx3 := hbx.cell 3 rfl
        have xx4 := hbx.cell 4 rfl
        refine wpOp_go (E := True) rfl rfl (fun K' hK => ?_)
        go_simp
        refine hK.out _ _ ⟨ρ, (by simp only [put, e0]; rfl), fun _ _ => rfl, hW.pure (by omega) (by omega) (by omega)⟩
      · have hks : L 8 = false := no_later hc hl (by kernel_rfl)
        have e1 : u 1 = .int .i64 (r1) := hu 1 (all_of hp (by kernel_rfl))
        refine wpOp_go (E := True) rfl rfl (fun K' hK => ?_)
        go_simp
        refine hK.out _ _ ⟨(wx.heap.size, ρ.2), (by simp only [put, e1]; rfl), fun j hj => by
              have n5 : L 5 = false := no_later hc hl (by kernel_rfl)
              have n6 : L 6 = false := no_later hc n5 (by kernel_rfl)
              have n8 : L 8 = false := no_later hc n6 (by kernel_rfl)
              match j, hj with
              | 0, _ => rfl
              | 1, _ => rfl
              | 2, hj => rw [hl] at hj; cases hj
              | 3, _ => rfl
              | 4, _ => rfl
              | 5, hj => rw [n5] at hj; cases hj
              | 6, hj => rw [n6] at hj; cases hj
              | 7, _ => rfl
              | 8, hj => rw [n8] at hj; cases hj
              | _ + 9, _ => rfl, hW.alloc (by omega) (by omega) (by (repeat' (first | (with_reducible exact Below.refl _ _) | (with_reducible assumption) | (with_reducible refine Below.alloc ?_ ?_ _) | (with_reducible refine Below.drew ?_) | (with_reducible refine Below.drewN' ?_ _) | (with_reducible refine Below.setCell ?_ ?_ _) | (refine Below.via ?_ (by with_reducible assumption) ?_) | (with_reducible refine Below.via ?_ (Wd.h _) ?_) | go_size))) (bx3 (by simp) (by simp) (by simp) (by simp) (by simp) (by simp) (by simp))⟩
      · have hks : L 8 = false := no_later hc hl (by kernel_rfl)
        refine wpOp_go (E := True) rfl rfl (fun K' hK => ?_)
        go_simp
        refine hK.out _ _ ⟨ρ, (by simp only [put]; rfl), fun _ _ => rfl, hW.pure (by omega) (by omega) (by omega)⟩
      · have hks : L 8 = false := no_later hc hl (by kernel_rfl)
        have e3 : u 3 = .pointer (some ⟨p, 0, none⟩) := hu 3 (all_of hp (by kernel_rfl))
        refine wpOp_go (E := True) rfl rfl (fun K' hK => ?_)
        go_simp
        go_at_call 16
        refine (spec_l01Next _ _ _ (hW.s0 hks) (by omega)).mono ?_
        rintro e' w5 ⟨r, rfl, ra, _, rb, hs5, hk5⟩
        have rc := rb (by omega)
        refine hK.out _ _ ⟨(ρ.1, r), (by simp only [put, e3]; rfl), fun j hj => by
              have n5 : L 5 = false := no_later hc hl (by kernel_rfl)
              have n6 : L 6 = false := no_later hc n5 (by kernel_rfl)
              have n8 : L 8 = false := no_later hc n6 (by kernel_rfl)
              match j, hj with
              | 0, _ => rfl
              | 1, _ => rfl
              | 2, _ => rfl
              | 3, _ => rfl
              | 4, hj => rw [hl] at hj; cases hj
              | 5, hj => rw [n5] at hj; cases hj
              | 6, hj => rw [n6] at hj; cases hj
              | 7, _ => rfl
              | 8, hj => rw [n8] at hj; cases hj
              | _ + 9, _ => rfl, hW.call (by omega) (by omega) (by omega) (by omega) hks hk5 hs5 ra rc⟩
      · have hks : L 8 = false := no_later hc hl (by kernel_rfl)
        have e2 : u 2 = .slice (some ⟨ρ.1, 0, none⟩) 3 3 := hu 2 (all_of hp (by kernel_rfl))
        have e4 : u 4 = .int .i64 (ρ.2) := hu 4 (all_of hp (by kernel_rfl))
        obtain ⟨ra, rb⟩ := hW.rr (all_of hp (by kernel_rfl))
        have rn : ρ.2.toNat < 3 := by omega
        refine wpOp_go (E := True) rfl rfl (fun K' hK => ?_)
        go_simp
        refine hK.out _ _ ⟨ρ, (by simp only [put, e2, e4]; rfl), fun _ _ => rfl, hW.pure (by omega) (by omega) (by omega)⟩
      · have hks : L 8 = false := no_later hc hl (by kernel_rfl)
        have e5 : u 5 = .pointer (some ⟨ρ.1, ρ.2.toNat, none⟩) := hu 5 (all_of hp (by kernel_rfl))
        obtain ⟨ra, rb⟩ := hW.rr (all_of (hc 5 (all_of hp (by kernel_rfl))) (by kernel_rfl))
        have rn : ρ.2.toNat < 3 := by omega
        obtain ⟨hg, hga⟩ := hW.ar (all_of (hc 5 (all_of hp (by kernel_rfl))) (by kernel_rfl))
        have hgx := hga.cell ρ.2.toNat (pickL3 r1 1000000000 1000000001 ρ.2.toNat rn)
        refine wpOp_go (E := True) rfl rfl (fun K' hK => ?_)
        go_simp
        refine hK.out _ _ ⟨ρ, (by simp only [put, e5]; rfl), fun _ _ => rfl, hW.pure (by omega) (by omega) (by omega)⟩
      · have hks : L 8 = false := no_later hc hl (by kernel_rfl)
        refine wpOp_go (E := True) rfl rfl (fun K' hK => ?_)
        go_simp
        refine hK.out _ _ ⟨ρ, (by simp only [put]; rfl), fun _ _ => rfl, hW.pure (by omega) (by omega) (by omega)⟩
      · have hks : L 8 = false := hl
        have e7 : u 7 = .pointer (some ⟨w3.heap.size, 1, none⟩) := hu 7 (all_of hp (by kernel_rfl))
        have e6 : u 6 = .int .i64 (pick [r1, 1000000000, 1000000001] ρ.2.toNat) := hu 6 (all_of hp (by kernel_rfl))
        have hbx := hW.b0 hks
        have xx0 := hbx.cell 0 rfl
        have xx1 := hbx.cell 1 rfl
        have xx2 := hbx.cell 2 rfl
        have xx3 := hbx.cell 3 rfl
        have xx4 := hbx.cell 4 rfl
        have xf0 := hbx.frozen 0 rfl
        have xf1 := hbx.frozen 1 rfl
        have xf2 := hbx.frozen 2 rfl
        have xf3 := hbx.frozen 3 rfl
        have xf4 := hbx.frozen 4 rfl
        have hyX := hbx.lt
        refine wpOp_go (E := True) rfl rfl (fun K' hK => ?_)
        go_simp
        refine hK.out _ _ ⟨ρ, (by simp only [put, e7, e6]; rfl), fun _ _ => rfl, hW.store (by omega) (by omega) hks (by omega) ((Keep.refl _ _).one _) (fun _ => by (repeat' (first | (with_reducible exact Below.refl _ _) | (with_reducible assumption) | (with_reducible refine Below.alloc ?_ ?_ _) | (with_reducible refine Below.drew ?_) | (with_reducible refine Below.drewN' ?_ _) | (with_reducible refine Below.setCell ?_ ?_ _) | (refine Below.via ?_ (by with_reducible assumption) ?_) | (with_reducible refine Below.via ?_ (Wd.h _) ?_) | go_size))) (bx5 (by simp; omega) (by simp [go_sem, xx0]) (by simp [go_sem, xf0]) (by simp [go_sem, xx1]) (by simp [go_sem, xf1]) (by simp [go_sem, xx2]) (by simp [go_sem, xf2]) (by simp [go_sem, xx3]) (by simp [go_sem, xf3]) (by simp [go_sem, xx4]) (by simp [go_sem, xf4]))⟩
    · intro L ρ u wx hall hu hW
      have hkp := hW.kp
      obtain ⟨ra, rb⟩ := hW.rr (hall 4 (by show 4 < 9; omega))
      have hbx := hW.b1 (hall 8 (by show 8 < 9; omega))
      have hs1 := hW.s1 (hall 8 (by show 8 < 9; omega))
      have hpb := pick_bd (lo := -1000) (hi := 1000000001) (by omega) (by omega) [r1, 1000000000, 1000000001] (by simp; omega) ρ.2.toNat
      have hby := (show Bx w9 w.heap.size [.int .i64 0, .int .i64 0, .int .i64 0, .int .i64 0, .int .i64 0] from (bx5 (by first | exact hy0 | go_size) (by first | (with_reducible exact cw0_0) | go_cell_look | (simp [go_sem, hy0, cw0_0, fw0_0, cw0_1, fw0_1, cw0_2, fw0_2, cw0_3, fw0_3, cw0_4, fw0_4]; done) | (simp [go_sem]; done)) (by first | (with_reducible exact fw0_0) | (simp only [World.frozen?_setCell, fw0_0]; done) | (simp [go_sem, hy0, cw0_0, fw0_0, cw0_1, fw0_1, cw0_2, fw0_2, cw0_3, fw0_3, cw0_4, fw0_4]; done) | (simp [go_sem]; done)) (by first | (with_reducible exact cw0_1) | go_cell_look | (simp [go_sem, hy0, cw0_0, fw0_0, cw0_1, fw0_1, cw0_2, fw0_2, cw0_3, fw0_3, cw0_4, fw0_4]; done) | (simp [go_sem]; done)) (by first | (with_reducible exact fw0_1) | (simp only [World.frozen?_setCell, fw0_1]; done) | (simp [go_sem, hy0, cw0_0, fw0_0, cw0_1, fw0_1, cw0_2, fw0_2, cw0_3, fw0_3, cw0_4, fw0_4]; done) | (simp [go_sem]; done)) (by first | (with_reducible exact cw0_2) | go_cell_look | (simp [go_sem, hy0, cw0_0, fw0_0, cw0_1, fw0_1, cw0_2, fw0_2, cw0_3, fw0_3, cw0_4, fw0_4]; done) | (simp [go_sem]; done)) (by first | (with_reducible exact fw0_2) | (simp only [World.frozen?_setCell, fw0_2]; done) | (simp [go_sem, hy0, cw0_0, fw0_0, cw0_1, fw0_1, cw0_2, fw0_2, cw0_3, fw0_3, cw0_4, fw0_4]; done) | (simp [go_sem]; done)) (by first | (with_reducible exact cw0_3) | go_cell_look | (simp [go_sem, hy0, cw0_0, fw0_0, cw0_1, fw0_1, cw0_2, fw0_2, cw0_3, fw0_3, cw0_4, fw0_4]; done) | (simp [go_sem]; done)) (by first | (with_reducible exact fw0_3) | (simp only [World.frozen?_setCell, fw0_3]; done) | (simp [go_sem, hy0, cw0_0, fw0_0, cw0_1, fw0_1, cw0_2, fw0_2, cw0_3, fw0_3, cw0_4, fw0_4]; done) | (simp [go_sem]; done)) (by first | (with_reducible exact cw0_4) | go_cell_look | (simp [go_sem, hy0, cw0_0, fw0_0, cw0_1, fw0_1, cw0_2, fw0_2, cw0_3, fw0_3, cw0_4, fw0_4]; done) | (simp [go_sem]; done)) (by first | (with_reducible exact fw0_4) | (simp only [World.frozen?_setCell, fw0_4]; done) | (simp [go_sem, hy0, cw0_0, fw0_0, cw0_1, fw0_1, cw0_2, fw0_2, cw0_3, fw0_3, cw0_4, fw0_4]; done) | (simp [go_sem]; done))))
      have hby : Bx wx w.heap.size [.int .i64 0, .int .i64 0, .int .i64 0, .int .i64 0, .int .i64 0] := ⟨Nat.lt_of_lt_of_le hby.1 hkp.size, fun q v e => ⟨(hkp.cell w.heap.size q hby.1 (by omega)).trans (hby.2 q v e).1, (hkp.frozen w.heap.size q hby.1 (by omega)).trans (hby.2 q v e).2⟩⟩
      exact (‹∀ (a : Act) (w_1 : World), Code.wp Tryd.prog _ _ a w_1 → _› : ∀ (a : Act) (w_1 : World), Code.wp Tryd.prog _ _ a w_1 → _) _ _ (l17_tail w wx p w3.heap.size ⟨r1, pick [r1, 1000000000, 1000000001] ρ.2.toNat, H7, r2, r3⟩ (Sv.mk_sm (by omega) (by omega) (by omega) (by omega) (by omega) (by omega) (by omega) (by omega) (by omega) (by omega)) _ _ _ _ _ (by omega) (by omega) hbx hby (hs1 (by omega)) (K9.out.to hkp (by omega)) _ _ _ _ _ _ _ _ _ _ _ _ _ _ _ _ _ _ _ _ _ _ _ _ _ _ _ _ _ _ _ _ _ _ _ _ _ _ _ _ _ _ _ _ _ _ _ _ _ _ _ _ _ _ _ _ _ _ _ _ _ _ _ _ _ _ _)
  by_cases e2 : r9 = 2
  · subst e2
    go_wp2_with fail
    have np9 : ¬ w9.heap.size = p := by omega
    refine (spec_l01Next p _ _ (HS9.out.below (by (repeat' (first | (with_reducible exact Below.refl _ _) | (with_reducible assumption) | (with_reducible refine Below.alloc ?_ ?_ _) | (with_reducible refine Below.drew ?_) | (with_reducible refine Below.drewN' ?_ _) | (with_reducible refine Below.setCell ?_ ?_ _) | (refine Below.via ?_ (by with_reducible assumption) ?_) | (with_reducible refine Below.via ?_ (Wd.h _) ?_) | go_size)))) (by omega)).mono ?_
    rintro e w11 ⟨r11, rfl, ra11, _, rb11, hs11, hk11⟩
    have HS11 := Lib.hid hs11
    have rc11 := rb11 (by omega)
    have rn11 : r11.toNat < 3 := by omega
    have hpb := pick_bd (lo := -1000) (hi := 1000000001) (by omega) (by omega) [-1, 30000, 30001] (by simp) r11.toNat
    have hld := (hk11.cell w9.heap.size r11.toNat (by simp) np9).trans (litA3 w9 2 (-1) 30000 30001 r11.toNat rn11)
    have K11 : Hid (Keep (· = p) w w11) := Lib.hid (by have h1 := K9.out; (repeat' (first | (with_reducible exact Keep.refl _ _) | (with_reducible assumption) | (with_reducible refine Keep.alloc ?_ _) | (with_reducible refine Keep.drew ?_) | (with_reducible refine Keep.drewN ?_ _) | (refine Keep.trans ?_ (by with_reducible assumption)) | (refine Keep.via ?_ (by with_reducible assumption)) | (with_reducible refine Keep.new ?_ ?_ _) | go_size)))
    clear hs11 rb11
    (have hz11 := hk11.size; (try simp at hz11); have Ncw0_0 := hk11.cell (w.heap.size) (0) (by first | omega | (simp; done) | (simp; omega)) (by intro hq; (try simp only at hq); omega); have Nfw0_0 := hk11.frozen (w.heap.size) (0) (by first | omega | (simp; done) | (simp; omega)) (by intro hq; (try simp only at hq); omega); have Nhy0 : w.heap.size < w11.heap.size := (by omega); have Ncw0_1 := hk11.cell (w.heap.size) (1) (by first | omega | (simp; done) | (simp; omega)) (by intro hq; (try simp only at hq); omega); have Nfw0_1 := hk11.frozen (w.heap.size) (1) (by first | omega | (simp; done) | (simp; omega)) (by intro hq; (try simp only at hq); omega); have Ncw0_2 := hk11.cell (w.heap.size) (2) (by first | omega | (simp; done) | (simp; omega)) (by intro hq; (try simp only at hq); omega); have Nfw0_2 := hk11.frozen (w.heap.size) (2) (by first | omega | (simp; done) | (simp; omega)) (by intro hq; (try simp only at hq); omega); have Ncw0_3 := hk11.cell (w.heap.size) (3) (by first | omega | (simp; done) | (simp; omega)) (by intro hq; (try simp only at hq); omega); have Nfw0_3 := hk11.frozen (w.heap.size) (3) (by first | omega | (simp; done) | (simp; omega)) (by intro hq; (try simp only at hq); omega); have Ncw0_4 := hk11.cell (w.heap.size) (4) (by first | omega | (simp; done) | (simp; omega)) (by intro hq; (try simp only at hq); omega); have Nfw0_4 := hk11.frozen (w.heap.size) (4) (by first | omega | (simp; done) | (simp; omega)) (by intro hq; (try simp only at hq); omega); have Nx_0 := hk11.cell (w3.heap.size) (0) (by first | omega | (simp; done) | (simp; omega)) (by intro hq; (try simp only at hq); omega); have Nx_0f := hk11.frozen (w3.heap.size) (0) (by first | omega | (simp; done) | (simp; omega)) (by intro hq; (try simp only at hq); omega); have Nhy_x : w3.heap.size < w11.heap.size := (by omega); have Nx_1 := hk11.cell (w3.heap.size) (1) (by first | omega | (simp; done) | (simp; omega)) (by intro hq; (try simp only at hq); omega); have Nx_1f := hk11.frozen (w3.heap.size) (1) (by first | omega | (simp; done) | (simp; omega)) (by intro hq; (try simp only at hq); omega); have Nx_2 := hk11.cell (w3.heap.size) (2) (by first | omega | (simp; done) | (simp; omega)) (by intro hq; (try simp only at hq); omega); have Nx_2f := hk11.frozen (w3.heap.size) (2) (by first | omega | (simp; done) | (simp; omega)) (by intro hq; (try simp only at hq); omega); have Nx_3 := hk11.cell (w3.heap.size) (3) (by first | omega | (simp; done) | (simp; omega)) (by intro hq; (try simp only at hq); omega); have Nx_3f := hk11.frozen (w3.heap.size) (3) (by first | omega | (simp; done) | (simp; omega)) (by intro hq; (try simp only at hq); omega); have Nx_4 := hk11.cell (w3.heap.size) (4) (by first | omega | (simp; done) | (simp; omega)) (by intro hq; (try simp only at hq); omega); have Nx_4f := hk11.frozen (w3.heap.size) (4) (by first | omega | (simp; done) | (simp; omega)) (by intro hq; (try simp only at hq); omega); simp [go_sem, cw0_0, fw0_0, cw0_1, fw0_1, cw0_2, fw0_2, cw0_3, fw0_3, cw0_4, fw0_4, x_0, x_0f, x_1, x_1f, x_2, x_2f, x_3, x_3f, x_4, x_4f, hy0, hy_x] at Ncw0_0 Nfw0_0 Ncw0_1 Nfw0_1 Ncw0_2 Nfw0_2 Ncw0_3 Nfw0_3 Ncw0_4 Nfw0_4 Nx_0 Nx_0f Nx_1 Nx_1f Nx_2 Nx_2f Nx_3 Nx_3f Nx_4 Nx_4f; clear cw0_0 fw0_0 cw0_1 fw0_1 cw0_2 fw0_2 cw0_3 fw0_3 cw0_4 fw0_4 x_0 x_0f x_1 x_1f x_2 x_2f x_3 x_3f x_4 x_4f hy0 hy_x; have cw0_0 := Ncw0_0; have fw0_0 := Nfw0_0; have cw0_1 := Ncw0_1; have fw0_1 := Nfw0_1; have cw0_2 := Ncw0_2; have fw0_2 := Nfw0_2; have cw0_3 := Ncw0_3; have fw0_3 := Nfw0_3; have cw0_4 := Ncw0_4; have fw0_4 := Nfw0_4; have x_0 := Nx_0; have x_0f := Nx_0f; have x_1 := Nx_1; have x_1f := Nx_1f; have x_2 := Nx_2; have x_2f := Nx_2f; have x_3 := Nx_3; have x_3f := Nx_3f; have x_4 := Nx_4; have x_4f := Nx_4f; have hy0 := Nhy0; have hy_x := Nhy_x; clear Ncw0_0 Nfw0_0 Ncw0_1 Nfw0_1 Ncw0_2 Nfw0_2 Ncw0_3 Nfw0_3 Ncw0_4 Nfw0_4 Nx_0 Nx_0f Nx_1 Nx_1f Nx_2 Nx_2f Nx_3 Nx_3f Nx_4 Nx_4f Nhy0 Nhy_x)
    clear hk11
    go_wp2
    (first | (refine bodyPost_ret (by simp [results, Tryd.results15, go_sem, cw0_0, cw0_1, cw0_2, cw0_3, cw0_4]; try rfl) rfl ?_) | (refine bodyPost_ret (by simp [results, Tryd.results15, go_sem]; try rfl) rfl ?_))
    refine ⟨⟨r1, H5, H7, pick [-1, 30000, 30001] r11.toNat, r3⟩, rfl, Sv.mk_sm (by omega) (by omega) (by omega) (by omega) (by omega) (by omega) (by omega) (by omega) (by omega) (by omega), HS11.out.high (B := p + 1) (by (repeat' (first | (with_reducible exact Below.refl _ _) | (with_reducible assumption) | (with_reducible refine Below.alloc ?_ ?_ _) | (with_reducible refine Below.drew ?_) | (with_reducible refine Below.drewN' ?_ _) | (with_reducible refine Below.setCell ?_ ?_ _) | (refine Below.via ?_ (by with_reducible assumption) ?_) | (with_reducible refine Below.via ?_ (Wd.h _) ?_) | go_size))) (by omega), by have h1 := K11.out; (repeat' (first | (with_reducible exact Keep.refl _ _) | (with_reducible assumption) | (with_reducible refine Keep.alloc ?_ _) | (with_reducible refine Keep.drew ?_) | (with_reducible refine Keep.drewN ?_ _) | (refine Keep.trans ?_ (by with_reducible assumption)) | (refine Keep.via ?_ (by with_reducible assumption)) | (with_reducible refine Keep.new ?_ ?_ _) | go_size))⟩
  have b0 : (r9 == 0) = false := by simpa using e0
  have b1 : (r9 == 1) = false := by simpa using e1
  have b2 : (r9 == 2) = false := by simpa using e2
  clear e0 e1 e2
  go_wp2
  (first | (refine bodyPost_ret (by simp [results, Tryd.results15, go_sem, cw0_0, cw0_1, cw0_2, cw0_3, cw0_4]; try rfl) rfl ?_) | (refine bodyPost_ret (by simp [results, Tryd.results15, go_sem]; try rfl) rfl ?_))
  refine ⟨⟨r1, H5, H7, r2, r3⟩, rfl, Sv.mk_sm (by omega) (by omega) (by omega) (by omega) (by omega) (by omega) (by omega) (by omega) (by omega) (by omega), HS9.out.high (B := p + 1) (by (repeat' (first | (with_reducible exact Below.refl _ _) | (with_reducible assumption) | (with_reducible refine Below.alloc ?_ ?_ _) | (with_reducible refine Below.drew ?_) | (with_reducible refine Below.drewN' ?_ _) | (with_reducible refine Below.setCell ?_ ?_ _) | (refine Below.via ?_ (by with_reducible assumption) ?_) | (with_reducible refine Below.via ?_ (Wd.h _) ?_) | go_size))) (by omega), by have h1 := K9.out; (repeat' (first | (with_reducible exact Keep.refl _ _) | (with_reducible assumption) | (with_reducible refine Keep.alloc ?_ _) | (with_reducible refine Keep.drew ?_) | (with_reducible refine Keep.drewN ?_ _) | (refine Keep.trans ?_ (by with_reducible assumption)) | (refine Keep.via ?_ (by with_reducible assumption)) | (with_reducible refine Keep.new ?_ ?_ _) | go_size))⟩
end Go.Proofs.YtinlaokblnhgoaaDoor
