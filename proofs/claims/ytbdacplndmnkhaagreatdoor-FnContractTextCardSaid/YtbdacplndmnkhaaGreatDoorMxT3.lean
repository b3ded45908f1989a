/- ReadContract. -/
import Derived.Test.YtbdacplndmnkhaaGreatDoorMxT2
namespace Go.Proofs.YtbdacplndmnkhaaGreatDoor
set_option linter.unusedVariables false
set_option linter.unusedSimpArgs false
open Go.RowKit
theorem bx8c {w : World} {b : Nat} {v0 v1 v2 v3 v4 v5 v6 v7 : Value} (h : b < w.heap.size) (c0 : w.cell? ⟨b, 0, none⟩ = some v0) (f0 : w.frozen? ⟨b, 0, none⟩ = false) (c1 : w.cell? ⟨b, 1, none⟩ = some v1) (f1 : w.frozen? ⟨b, 1, none⟩ = false) (c2 : w.cell? ⟨b, 2, none⟩ = some v2) (f2 : w.frozen? ⟨b, 2, none⟩ = false) (c3 : w.cell? ⟨b, 3, none⟩ = some v3) (f3 : w.frozen? ⟨b, 3, none⟩ = false) (c4 : w.cell? ⟨b, 4, none⟩ = some v4) (f4 : w.frozen? ⟨b, 4, none⟩ = false) (c5 : w.cell? ⟨b, 5, none⟩ = some v5) (f5 : w.frozen? ⟨b, 5, none⟩ = false) (c6 : w.cell? ⟨b, 6, none⟩ = some v6) (f6 : w.frozen? ⟨b, 6, none⟩ = false) (c7 : w.cell? ⟨b, 7, none⟩ = some v7) (f7 : w.frozen? ⟨b, 7, none⟩ = false) : Bx w b [v0, v1, v2, v3, v4, v5, v6, v7] :=
  (((bx5 h c0 f0 c1 f1 c2 f2 c3 f3 c4 f4).snoc 5 rfl c5 f5).snoc 6 rfl c6 f6).snoc 7 rfl c7 f7
theorem bx_fill8 {w : World} {b : Nat} {z0 z1 z2 z3 z4 z5 z6 z7 : Value} (h : Bx w b [z0, z1, z2, z3, z4, z5, z6, z7]) (v0 v1 v2 v3 v4 v5 v6 v7 : Value) : Bx ((((((((w.setCell ⟨b, 0, none⟩ v0).setCell ⟨b, 1, none⟩ v1).setCell ⟨b, 2, none⟩ v2).setCell ⟨b, 3, none⟩ v3).setCell ⟨b, 4, none⟩ v4).setCell ⟨b, 5, none⟩ v5).setCell ⟨b, 6, none⟩ v6).setCell ⟨b, 7, none⟩ v7) b [v0, v1, v2, v3, v4, v5, v6, v7] :=
  (Bx.set_ (Bx.set_ (Bx.set_ (Bx.set_ (Bx.set_ (Bx.set_ (Bx.set_ (Bx.set_ h 0 v0 (by simp)) 1 v1 (by simp)) 2 v2 (by simp)) 3 v3 (by simp)) 4 v4 (by simp)) 5 v5 (by simp)) 6 v6 (by simp)) 7 v7 (by simp))
theorem keep8 {w : World} {b : Nat} (v0 v1 v2 v3 v4 v5 v6 v7 : Value) : Keep (· = b) w ((((((((w.setCell ⟨b, 0, none⟩ v0).setCell ⟨b, 1, none⟩ v1).setCell ⟨b, 2, none⟩ v2).setCell ⟨b, 3, none⟩ v3).setCell ⟨b, 4, none⟩ v4).setCell ⟨b, 5, none⟩ v5).setCell ⟨b, 6, none⟩ v6).setCell ⟨b, 7, none⟩ v7) :=
  (Keep.setCell (Keep.setCell (Keep.setCell (Keep.setCell (Keep.setCell (Keep.setCell (Keep.setCell (Keep.setCell (Keep.refl (· = b) w) rfl v0) rfl v1) rfl v2) rfl v3) rfl v4) rfl v5) rfl v6) rfl v7)
theorem fill8 {w wr : World} {b B : Nat} {z0 z1 z2 z3 z4 z5 z6 z7 : Value} (hB : Below B w wr) (hb : B ≤ b) (h : Bx wr b [z0, z1, z2, z3, z4, z5, z6, z7]) (v0 v1 v2 v3 v4 v5 v6 v7 : Value) : Bx ((((((((wr.setCell ⟨b, 0, none⟩ v0).setCell ⟨b, 1, none⟩ v1).setCell ⟨b, 2, none⟩ v2).setCell ⟨b, 3, none⟩ v3).setCell ⟨b, 4, none⟩ v4).setCell ⟨b, 5, none⟩ v5).setCell ⟨b, 6, none⟩ v6).setCell ⟨b, 7, none⟩ v7) b [v0, v1, v2, v3, v4, v5, v6, v7] ∧ Below B w ((((((((wr.setCell ⟨b, 0, none⟩ v0).setCell ⟨b, 1, none⟩ v1).setCell ⟨b, 2, none⟩ v2).setCell ⟨b, 3, none⟩ v3).setCell ⟨b, 4, none⟩ v4).setCell ⟨b, 5, none⟩ v5).setCell ⟨b, 6, none⟩ v6).setCell ⟨b, 7, none⟩ v7) :=
  ⟨bx_fill8 h v0 v1 v2 v3 v4 v5 v6 v7, (Below.setCell (Below.setCell (Below.setCell (Below.setCell (Below.setCell (Below.setCell (Below.setCell (Below.setCell hB hb v0) hb v1) hb v2) hb v3) hb v4) hb v5) hb v6) hb v7)⟩
theorem NV_word {s : ByteArray} {c : UInt8} {ws : List ByteArray} (h : Cut s c ws) (hw : ws.any (fun s => decide (18 < s.size)) = true) : mapO rdV (spl c (bl s)) = none := by
  obtain ⟨x, hx, hx2⟩ := List.any_eq_true.1 hw
  rw [← h.eq]
  exact NV_long (List.mem_map.2 ⟨x, hx, rfl⟩) (by rw [bl_len]; simpa using hx2)
theorem NV_all {s : ByteArray} {c : UInt8} {ws : List ByteArray} {l : List Int} (h : Cut s c ws) (hw : ws.any (fun s => decide (18 < s.size)) = false) (hn : l.any (fun x => decide (x < 0)) = false) (ho : mapO rdN (spl c (bl s)) = some l) : mapO rdV (spl c (bl s)) = some l :=
  NV_some ho hn (fun w hwm => by
    rw [← h.eq] at hwm
    obtain ⟨x, hx, rfl⟩ := List.mem_map.1 hwm
    rw [bl_len]
    have : ¬ 18 < x.size := fun q => by
      have h2 : ws.any (fun s => decide (18 < s.size)) = true := List.any_eq_true.2 ⟨x, hx, by simpa using q⟩
      rw [hw] at h2; cases h2
    omega)
set_option maxRecDepth 100000 in
set_option maxHeartbeats 8000000 in
theorem spec_ReadContract (s : ByteArray) (w : World) (hs : Mod s) :
    Calls Tryz.prog 9 #[.string s] w fun e w' => e = .returned (rcV (rcL (mapO rdV (spl 32 (bl s))))) ∧ Below w.heap.size w w' := by
  have HS := Lib.hid hs
  clear hs
  go_enter Tryz.func9, Tryz.ntmps9
  go_wp2_with fail
  generalize hW0 : World.alloc w _ = w0
  have hb0 : Below w.heap.size w w0 := by rw [← hW0]; (repeat' (first | (with_reducible exact Below.refl _ _) | (with_reducible assumption) | (with_reducible refine Below.alloc ?_ ?_ _) | (with_reducible refine Below.drew ?_) | (with_reducible refine Below.drewN' ?_ _) | (with_reducible refine Below.setCell ?_ ?_ _) | (refine Below.via ?_ (by with_reducible assumption) ?_) | (with_reducible refine Below.via ?_ (Wd.h _) ?_) | go_size))
  have hx0 : Bx w0 w.heap.size [.int .i64 0, .int .i64 0, .int .i64 0, .int .i64 0, .int .i64 0, .int .i64 0, .int .i64 0, .int .i64 0] := by rw [← hW0]; exact bx8c (by simp) (by simp) (by simp) (by simp) (by simp) (by simp) (by simp) (by simp) (by simp) (by simp) (by simp) (by simp) (by simp) (by simp) (by simp) (by simp) (by simp)
  clear hW0
  refine (spec_l01Split s 32 32 _ rfl HS.out).mono ?_
  rintro e w1 ⟨A, d, ws, rfl, hcut, hr, hb1⟩
  have hB1 : Below w.heap.size w w1 := hb0.trans (hb1.mono hb0.size)
  have hx1 := hx0.below hb1 hx0.lt
  have HC := Lib.hid hcut
  have HR := Lib.hid hr
  have HB1 := Lib.hid hB1
  have HX1 := Lib.hid hx1
  clear hb0 hx0 hb1 hB1 hx1 hr hcut
  go_wp2_with fail
  refine (spec_l03Numbers A d ws _ HR.out (HC.out.len HS.out) (HC.out.mod HS.out)).mono ?_
  intro e w2 hN
  rw [HC.out.eq] at hN
  cases ho : mapO rdV (spl 32 (bl s)) with
  | none =>
    rw [ho] at hN
    obtain ⟨rfl, hb2⟩ := hN
    have hB2 := HB1.out.trans (hb2.mono HB1.out.size)
    have hx2 := HX1.out.below hb2 HX1.out.lt
    have cz0 := hx2.cell 0 rfl
    have fz0 := hx2.frozen 0 rfl
    have cz1 := hx2.cell 1 rfl
    have fz1 := hx2.frozen 1 rfl
    have cz2 := hx2.cell 2 rfl
    have fz2 := hx2.frozen 2 rfl
    have cz3 := hx2.cell 3 rfl
    have fz3 := hx2.frozen 3 rfl
    have cz4 := hx2.cell 4 rfl
    have fz4 := hx2.frozen 4 rfl
    have cz5 := hx2.cell 5 rfl
    have fz5 := hx2.frozen 5 rfl
    have cz6 := hx2.cell 6 rfl
    have fz6 := hx2.frozen 6 rfl
    have cz7 := hx2.cell 7 rfl
    have fz7 := hx2.frozen 7 rfl
    have hyz := hx2.lt
    have HB2 := Lib.hid hB2
    have HX2 := Lib.hid hx2
    clear hB2 hx2 hb2
    go_wp2
    have hbf := fill8 HB2.out (Nat.le_refl _) HX2.out (.int .i64 0) (.int .i64 0) (.int .i64 0) (.int .i64 0) (.int .i64 0) (.int .i64 0) (.int .i64 0) (.int .i64 0)
    revert hbf
    generalize World.setCell _ _ _ = w9
    rintro ⟨hbf, hbel⟩
    have k0 := hbf.cell 0 rfl
    have k1 := hbf.cell 1 rfl
    have k2 := hbf.cell 2 rfl
    have k3 := hbf.cell 3 rfl
    have k4 := hbf.cell 4 rfl
    have k5 := hbf.cell 5 rfl
    have k6 := hbf.cell 6 rfl
    have k7 := hbf.cell 7 rfl
    refine bodyPost_ret (by simp [results, Tryz.results9, go_sem, k0, k1, k2, k3, k4, k5, k6, k7]; try rfl) rfl ?_
    exact ⟨by rw [ho]; rfl, hbel⟩
  | some l =>
    rw [ho] at hN
    obtain ⟨B, c2, rfl, hR2, hb2⟩ := hN
    have hB2 := HB1.out.trans (hb2.mono HB1.out.size)
    have hx2 := HX1.out.below hb2 HX1.out.lt
    have HRW := Lib.hid (HR.out.below hb2)
    have cz0 := hx2.cell 0 rfl
    have fz0 := hx2.frozen 0 rfl
    have cz1 := hx2.cell 1 rfl
    have fz1 := hx2.frozen 1 rfl
    have cz2 := hx2.cell 2 rfl
    have fz2 := hx2.frozen 2 rfl
    have cz3 := hx2.cell 3 rfl
    have fz3 := hx2.frozen 3 rfl
    have cz4 := hx2.cell 4 rfl
    have fz4 := hx2.frozen 4 rfl
    have cz5 := hx2.cell 5 rfl
    have fz5 := hx2.frozen 5 rfl
    have cz6 := hx2.cell 6 rfl
    have fz6 := hx2.frozen 6 rfl
    have cz7 := hx2.cell 7 rfl
    have fz7 := hx2.frozen 7 rfl
    have hyz := hx2.lt
    have HB2 := Lib.hid hB2
    have HX2 := Lib.hid hx2
    clear hB2 hx2 hb2
    by_cases h8 : l.length = 8
    · have HR2 := Lib.hid hR2
      have H8 := Lib.hid h8
      rw [h8]
      clear hR2 h8
      have h8 := H8.out
      obtain ⟨xa, xb, xc, xd, xe, xf, xg, xi, rfl⟩ := list8 h8
      obtain ⟨b, off, rfl, hb, hat⟩ := HR2.out.opened (k := 0) (by simp)
      have t0 := ints0 hat 0 rfl
      have t1 := ints0 hat 1 rfl
      have t2 := ints0 hat 2 rfl
      have t3 := ints0 hat 3 rfl
      have t4 := ints0 hat 4 rfl
      have t5 := ints0 hat 5 rfl
      have t6 := ints0 hat 6 rfl
      have t7 := ints0 hat 7 rfl
      simp only [Nat.add_zero] at t0
      clear hat h8
      go_wp2_with fail
      refine wp_region_tb (R := Nat) [some 20, some 21, some 22, some 23, some 24, some 25, some 26, some 27, some 28, some 29, some 30, some 31, some 32, some 33, some 34, some 35, some 36, some 37, some 38, some 39, some 40, some 41, some 42, some 43, some 44, none, some 3] _ (by intro u; simp only [frs, Act.put, List.setIfInBounds_toArray, List.set_cons_zero, List.set_cons_succ, Nat.reduceAdd]; exact rfl) (fun ρ j => ([.slice (some ⟨b, off, none⟩) 8 c2, .pointer (some ⟨b, off, none⟩), .int .i64 xa, .slice (some ⟨b, off, none⟩) 8 c2, .pointer (some ⟨b, off + 1, none⟩), .int .i64 xb, .slice (some ⟨b, off, none⟩) 8 c2, .pointer (some ⟨b, off + 2, none⟩), .int .i64 xc, .slice (some ⟨b, off, none⟩) 8 c2, .pointer (some ⟨b, off + 3, none⟩), .int .i64 xd, .slice (some ⟨b, off, none⟩) 8 c2, .pointer (some ⟨b, off + 4, none⟩), .int .i64 xe, .slice (some ⟨b, off, none⟩) 8 c2, .pointer (some ⟨b, off + 5, none⟩), .int .i64 xf, .slice (some ⟨b, off, none⟩) 8 c2, .pointer (some ⟨b, off + 6, none⟩), .int .i64 xg, .slice (some ⟨b, off, none⟩) 8 c2, .pointer (some ⟨b, off + 7, none⟩), .int .i64 xi, .agg #[.int .i64 xa, .int .i64 xb, .int .i64 xc, .int .i64 xd, .int .i64 xe, .int .i64 xf, .int .i64 xg, .int .i64 xi], undef, .bool true] : List Value).getD j undef) (WO w2 w.heap.size 25 [.int .i64 0, .int .i64 0, .int .i64 0, .int .i64 0, .int .i64 0, .int .i64 0, .int .i64 0, .int .i64 0] [.int .i64 xa, .int .i64 xb, .int .i64 xc, .int .i64 xd, .int .i64 xe, .int .i64 xf, .int .i64 xg, .int .i64 xi]) (by kernel_rfl) (by kernel_rfl) 0 (WO.start (Below.drew (Below.refl _ _)) HX2.out) ?_ ?_
      · intro ii hii L ρ u wx hl hp hc hu hn hW
        have hii : ii < 27 := hii
        have HNo := Lib.hid hn
        clear hn
        have hii : ii = 0 ∨ ii = 1 ∨ ii = 2 ∨ ii = 3 ∨ ii = 4 ∨ ii = 5 ∨ ii = 6 ∨ ii = 7 ∨ ii = 8 ∨ ii = 9 ∨ ii = 10 ∨ ii = 11 ∨ ii = 12 ∨ ii = 13 ∨ ii = 14 ∨ ii = 15 ∨ ii = 16 ∨ ii = 17 ∨ ii = 18 ∨ ii = 19 ∨ ii = 20 ∨ ii = 21 ∨ ii = 22 ∨ ii = 23 ∨ ii = 24 ∨ ii = 25 ∨ ii = 26 := by omega
        rcases hii with rfl | rfl | rfl | rfl | rfl | rfl | rfl | rfl | rfl | rfl | rfl | rfl | rfl | rfl | rfl | rfl | rfl | rfl | rfl | rfl | rfl | rfl | rfl | rfl | rfl | rfl | rfl
        · refine wpOp_go (E := True) rfl rfl (fun K' hK => ?_)
          go_simp
          refine hK.out _ _ ⟨ρ, (by simp only [put]; rfl), fun _ _ => rfl, hW.pure (by omega)⟩
        · have e0 : u 0 = .slice (some ⟨b, off, none⟩) 8 c2 := hu 0 (all_of hp (by kernel_rfl))
          refine wpOp_go (E := True) rfl rfl (fun K' hK => ?_)
          go_simp
          refine hK.out _ _ ⟨ρ, (by simp only [put, e0]; rfl), fun _ _ => rfl, hW.pure (by omega)⟩
        · have e1 : u 1 = .pointer (some ⟨b, off, none⟩) := hu 1 (all_of hp (by kernel_rfl))
          have nks : L 25 = false := no_later hc hl (by kernel_rfl)
          have s0 := ((hW.z0 nks).1.cell (p := ⟨b, off, none⟩) hb).trans t0
          refine wpOp_go (E := True) rfl rfl (fun K' hK => ?_)
          go_simp
          refine hK.out _ _ ⟨ρ, (by simp only [put, e1]; rfl), fun _ _ => rfl, hW.pure (by omega)⟩
        · refine wpOp_go (E := True) rfl rfl (fun K' hK => ?_)
          go_simp
          refine hK.out _ _ ⟨ρ, (by simp only [put]; rfl), fun _ _ => rfl, hW.pure (by omega)⟩
        · have e3 : u 3 = .slice (some ⟨b, off, none⟩) 8 c2 := hu 3 (all_of hp (by kernel_rfl))
          refine wpOp_go (E := True) rfl rfl (fun K' hK => ?_)
          go_simp
          refine hK.out _ _ ⟨ρ, (by simp only [put, e3]; rfl), fun _ _ => rfl, hW.pure (by omega)⟩
        · have e4 : u 4 = .pointer (some ⟨b, off + 1, none⟩) := hu 4 (all_of hp (by kernel_rfl))
          have nks : L 25 = false := no_later hc hl (by kernel_rfl)
          have s1 := ((hW.z0 nks).1.cell (p := ⟨b, off + 1, none⟩) hb).trans t1
          refine wpOp_go (E := True) rfl rfl (fun K' hK => ?_)
          go_simp
          refine hK.out _ _ ⟨ρ, (by simp only [put, e4]; rfl), fun _ _ => rfl, hW.pure (by omega)⟩
        · refine wpOp_go (E := True) rfl rfl (fun K' hK => ?_)
          go_simp
          refine hK.out _ _ ⟨ρ, (by simp only [put]; rfl), fun _ _ => rfl, hW.pure (by omega)⟩
        · have e6 : u 6 = .slice (some ⟨b, off, none⟩) 8 c2 := hu 6 (all_of hp (by kernel_rfl))
          refine wpOp_go (E := True) rfl rfl (fun K' hK => ?_)
          go_simp
          refine hK.out _ _ ⟨ρ, (by simp only [put, e6]; rfl), fun _ _ => rfl, hW.pure (by omega)⟩
        · have e7 : u 7 = .pointer (some ⟨b, off + 2, none⟩) := hu 7 (all_of hp (by kernel_rfl))
          have nks : L 25 = false := no_later hc hl (by kernel_rfl)
          have s2 := ((hW.z0 nks).1.cell (p := ⟨b, off + 2, none⟩) hb).trans t2
          refine wpOp_go (E := True) rfl rfl (fun K' hK => ?_)
          go_simp
          refine hK.out _ _ ⟨ρ, (by simp only [put, e7]; rfl), fun _ _ => rfl, hW.pure (by omega)⟩
        · refine wpOp_go (E := True) rfl rfl (fun K' hK => ?_)
          go_simp
          refine hK.out _ _ ⟨ρ, (by simp only [put]; rfl), fun _ _ => rfl, hW.pure (by omega)⟩
        · have e9 : u 9 = .slice (some ⟨b, off, none⟩) 8 c2 := hu 9 (all_of hp (by kernel_rfl))
          refine wpOp_go (E := True) rfl rfl (fun K' hK => ?_)
          go_simp
          refine hK.out _ _ ⟨ρ, (by simp only [put, e9]; rfl), fun _ _ => rfl, hW.pure (by omega)⟩
        · have e10 : u 10 = .pointer (some ⟨b, off + 3, none⟩) := hu 10 (all_of hp (by kernel_rfl))
          have nks : L 25 = false := no_later hc hl (by kernel_rfl)
          have s3 := ((hW.z0 nks).1.cell (p := ⟨b, off + 3, none⟩) hb).trans t3
          refine wpOp_go (E := True) rfl rfl (fun K' hK => ?_)
          go_simp
          refine hK.out _ _ ⟨ρ, (by simp only [put, e10]; rfl), fun _ _ => rfl, hW.pure (by omega)⟩
        · refine wpOp_go (E := True) rfl rfl (fun K' hK => ?_)
          go_simp
          refine hK.out _ _ ⟨ρ, (by simp only [put]; rfl), fun _ _ => rfl, hW.pure (by omega)⟩
        · have e12 : u 12 = .slice (some ⟨b, off, none⟩) 8 c2 := hu 12 (all_of hp (by kernel_rfl))
          refine wpOp_go (E := True) rfl rfl (fun K' hK => ?_)
          go_simp
          refine hK.out _ _ ⟨ρ, (by simp only [put, e12]; rfl), fun _ _ => rfl, hW.pure (by omega)⟩
        · have e13 : u 13 = .pointer (some ⟨b, off + 4, none⟩) := hu 13 (all_of hp (by kernel_rfl))
          have nks : L 25 = false := no_later hc hl (by kernel_rfl)
          have s4 := ((hW.z0 nks).1.cell (p := ⟨b, off + 4, none⟩) hb).trans t4
          refine wpOp_go (E := True) rfl rfl (fun K' hK => ?_)
          go_simp
          refine hK.out _ _ ⟨ρ, (by simp only [put, e13]; rfl), fun _ _ => rfl, hW.pure (by omega)⟩
        · refine wpOp_go (E := True) rfl rfl (fun K' hK => ?_)
          go_simp
          refine hK.out _ _ ⟨ρ, (by simp only [put]; rfl), fun _ _ => rfl, hW.pure (by omega)⟩
        · have e15 : u 15 = .slice (some ⟨b, off, none⟩) 8 c2 := hu 15 (all_of hp (by kernel_rfl))
          refine wpOp_go (E := True) rfl rfl (fun K' hK => ?_)
          go_simp
          refine hK.out _ _ ⟨ρ, (by simp only [put, e15]; rfl), fun _ _ => rfl, hW.pure (by omega)⟩
        · have e16 : u 16 = .pointer (some ⟨b, off + 5, none⟩) := hu 16 (all_of hp (by kernel_rfl))
          have nks : L 25 = false := no_later hc hl (by kernel_rfl)
          have s5 := ((hW.z0 nks).1.cell (p := ⟨b, off + 5, none⟩) hb).trans t5
          refine wpOp_go (E := True) rfl rfl (fun K' hK => ?_)
          go_simp
          refine hK.out _ _ ⟨ρ, (by simp only [put, e16]; rfl), fun _ _ => rfl, hW.pure (by omega)⟩
        · refine wpOp_go (E := True) rfl rfl (fun K' hK => ?_)
          go_simp
          refine hK.out _ _ ⟨ρ, (by simp only [put]; rfl), fun _ _ => rfl, hW.pure (by omega)⟩
        · have e18 : u 18 = .slice (some ⟨b, off, none⟩) 8 c2 := hu 18 (all_of hp (by kernel_rfl))
          refine wpOp_go (E := True) rfl rfl (fun K' hK => ?_)
          go_simp
          refine hK.out _ _ ⟨ρ, (by simp only [put, e18]; rfl), fun _ _ => rfl, hW.pure (by omega)⟩
        · have e19 : u 19 = .pointer (some ⟨b, off + 6, none⟩) := hu 19 (all_of hp (by kernel_rfl))
          have nks : L 25 = false := no_later hc hl (by kernel_rfl)
          have s6 := ((hW.z0 nks).1.cell (p := ⟨b, off + 6, none⟩) hb).trans t6
          refine wpOp_go (E := True) rfl rfl (fun K' hK => ?_)
          go_simp
          refine hK.out _ _ ⟨ρ, (by simp only [put, e19]; rfl), fun _ _ => rfl, hW.pure (by omega)⟩
        · refine wpOp_go (E := True) rfl rfl (fun K' hK => ?_)
          go_simp
          refine hK.out _ _ ⟨ρ, (by simp only [put]; rfl), fun _ _ => rfl, hW.pure (by omega)⟩
        · have e21 : u 21 = .slice (some ⟨b, off, none⟩) 8 c2 := hu 21 (all_of hp (by kernel_rfl))
          refine wpOp_go (E := True) rfl rfl (fun K' hK => ?_)
          go_simp
          refine hK.out _ _ ⟨ρ, (by simp only [put, e21]; rfl), fun _ _ => rfl, hW.pure (by omega)⟩
        · have e22 : u 22 = .pointer (some ⟨b, off + 7, none⟩) := hu 22 (all_of hp (by kernel_rfl))
          have nks : L 25 = false := no_later hc hl (by kernel_rfl)
          have s7 := ((hW.z0 nks).1.cell (p := ⟨b, off + 7, none⟩) hb).trans t7
          refine wpOp_go (E := True) rfl rfl (fun K' hK => ?_)
          go_simp
          refine hK.out _ _ ⟨ρ, (by simp only [put, e22]; rfl), fun _ _ => rfl, hW.pure (by omega)⟩
        · have e2 : u 2 = .int .i64 xa := hu 2 (all_of hp (by kernel_rfl))
          have e5 : u 5 = .int .i64 xb := hu 5 (all_of hp (by kernel_rfl))
          have e8 : u 8 = .int .i64 xc := hu 8 (all_of hp (by kernel_rfl))
          have e11 : u 11 = .int .i64 xd := hu 11 (all_of hp (by kernel_rfl))
          have e14 : u 14 = .int .i64 xe := hu 14 (all_of hp (by kernel_rfl))
          have e17 : u 17 = .int .i64 xf := hu 17 (all_of hp (by kernel_rfl))
          have e20 : u 20 = .int .i64 xg := hu 20 (all_of hp (by kernel_rfl))
          have e23 : u 23 = .int .i64 xi := hu 23 (all_of hp (by kernel_rfl))
          refine wpOp_go (E := True) rfl rfl (fun K' hK => ?_)
          go_simp
          refine hK.out _ _ ⟨ρ, (by simp only [put, e2, e5, e8, e11, e14, e17, e20, e23]; rfl), fun _ _ => rfl, hW.pure (by omega)⟩
        · have e24 : u 24 = .agg #[.int .i64 xa, .int .i64 xb, .int .i64 xc, .int .i64 xd, .int .i64 xe, .int .i64 xf, .int .i64 xg, .int .i64 xi] := hu 24 (all_of hp (by kernel_rfl))
          have hq := (hW.z0 hl).2
          have hq0 := hq.cell 0 rfl
          have hf0 := hq.frozen 0 rfl
          have hq1 := hq.cell 1 rfl
          have hf1 := hq.frozen 1 rfl
          have hq2 := hq.cell 2 rfl
          have hf2 := hq.frozen 2 rfl
          have hq3 := hq.cell 3 rfl
          have hf3 := hq.frozen 3 rfl
          have hq4 := hq.cell 4 rfl
          have hf4 := hq.frozen 4 rfl
          have hq5 := hq.cell 5 rfl
          have hf5 := hq.frozen 5 rfl
          have hq6 := hq.cell 6 rfl
          have hf6 := hq.frozen 6 rfl
          have hq7 := hq.cell 7 rfl
          have hf7 := hq.frozen 7 rfl
          refine wpOp_go (E := True) rfl rfl (fun K' hK => ?_)
          go_simp
          refine hK.out _ _ ⟨ρ, (by simp only [put, e24]; rfl), fun _ _ => rfl, hW.store hl (keep8 _ _ _ _ _ _ _ _) (bx_fill8 hq _ _ _ _ _ _ _ _)⟩
        · refine wpOp_go (E := True) rfl rfl (fun K' hK => ?_)
          go_simp
          refine hK.out _ _ ⟨ρ, (by simp only [put]; rfl), fun _ _ => rfl, hW.pure (by omega)⟩
      · intro L ρ u wx hall hu hW
        have e26 : u 26 = .bool true := hu 26 (by show 26 < 27; omega)
        rw [e26]
        obtain ⟨hk9, hbf⟩ := hW.z1 (hall 25 (by show 25 < 27; omega))
        have hbel := hk9.below HB2.out HB2.out.size (fun k z => by rw [z]; exact Nat.le_refl _)
        clear hu hall hW e26 hk9 hyz t0 cz0 fz0 t1 cz1 fz1 t2 cz2 fz2 t3 cz3 fz3 t4 cz4 fz4 t5 cz5 fz5 t6 cz6 fz6 t7 cz7 fz7
        go_wp2
        have k0 := hbf.cell 0 rfl
        have k1 := hbf.cell 1 rfl
        have k2 := hbf.cell 2 rfl
        have k3 := hbf.cell 3 rfl
        have k4 := hbf.cell 4 rfl
        have k5 := hbf.cell 5 rfl
        have k6 := hbf.cell 6 rfl
        have k7 := hbf.cell 7 rfl
        refine bodyPost_ret (by simp [results, Tryz.results9, go_sem, k0, k1, k2, k3, k4, k5, k6, k7]; try rfl) rfl ?_
        exact ⟨by rw [ho]; rfl, hbel⟩
    · have HR8 := Lib.hid h8
      have g8 : ((l.length : Int) == 8) = false := by simp; omega
      go_wp2
      have hbf := fill8 HB2.out (Nat.le_refl _) HX2.out (.int .i64 0) (.int .i64 0) (.int .i64 0) (.int .i64 0) (.int .i64 0) (.int .i64 0) (.int .i64 0) (.int .i64 0)
      revert hbf
      generalize World.setCell _ _ _ = w9
      rintro ⟨hbf, hbel⟩
      have k0 := hbf.cell 0 rfl
      have k1 := hbf.cell 1 rfl
      have k2 := hbf.cell 2 rfl
      have k3 := hbf.cell 3 rfl
      have k4 := hbf.cell 4 rfl
      have k5 := hbf.cell 5 rfl
      have k6 := hbf.cell 6 rfl
      have k7 := hbf.cell 7 rfl
      refine bodyPost_ret (by simp [results, Tryz.results9, go_sem, k0, k1, k2, k3, k4, k5, k6, k7]; try rfl) rfl ?_
      exact ⟨by rw [ho, rcL_len HR8.out]; rfl, hbel⟩
set_option maxRecDepth 100000 in
set_option maxHeartbeats 8000000 in
theorem impl_ReadContract (s : ByteArray) (w : World) (hs : Mod s) (ht : Tabs w) :
    Calls Tryz.prog 7 #[.string s] w fun e w' => e = .returned (rcV (rcL (mapO rdV (spl 32 (bl s))))) ∧ Below w.heap.size w w' := by
  have HT := Lib.hid ht
  clear ht
  have HS := Lib.hid hs
  clear hs
  go_enter Tryz.func7, Tryz.ntmps7
  go_wp2_with fail
  generalize hW0 : World.alloc w _ = w0
  have hb0 : Below w.heap.size w w0 := by rw [← hW0]; (repeat' (first | (with_reducible exact Below.refl _ _) | (with_reducible assumption) | (with_reducible refine Below.alloc ?_ ?_ _) | (with_reducible refine Below.drew ?_) | (with_reducible refine Below.drewN' ?_ _) | (with_reducible refine Below.setCell ?_ ?_ _) | (refine Below.via ?_ (by with_reducible assumption) ?_) | (with_reducible refine Below.via ?_ (Wd.h _) ?_) | go_size))
  have hx0 : Bx w0 w.heap.size [.int .i64 0, .int .i64 0, .int .i64 0, .int .i64 0, .int .i64 0, .int .i64 0, .int .i64 0, .int .i64 0] := by rw [← hW0]; exact bx8c (by simp) (by simp) (by simp) (by simp) (by simp) (by simp) (by simp) (by simp) (by simp) (by simp) (by simp) (by simp) (by simp) (by simp) (by simp) (by simp) (by simp)
  clear hW0
  refine (split_one s 32 _ HS.out (HT.out.below hb0)).mono ?_
  rintro e w1 ⟨A, d, ws, rfl, hcut, hr, hb1⟩
  have hB1 : Below w.heap.size w w1 := hb0.trans (hb1.mono hb0.size)
  have hx1 := hx0.below hb1 hx0.lt
  have HC := Lib.hid hcut
  have HR := Lib.hid hr
  have HB1 := Lib.hid hB1
  have HX1 := Lib.hid hx1
  clear hb0 hx0 hb1 hB1 hx1 hr hcut
  go_wp2_with fail
  refine (impl_readNumbers A d ws _ HR.out (HC.out.len HS.out) (HC.out.mod HS.out) (HT.out.below HB1.out)).mono ?_
  intro e w2 hN
  rw [HC.out.eq] at hN
  cases ho : mapO rdN (spl 32 (bl s)) with
  | none =>
    rw [ho] at hN
    obtain ⟨rfl, hb2⟩ := hN
    have hB2 := HB1.out.trans (hb2.mono HB1.out.size)
    have hx2 := HX1.out.below hb2 HX1.out.lt
    have cz0 := hx2.cell 0 rfl
    have fz0 := hx2.frozen 0 rfl
    have cz1 := hx2.cell 1 rfl
    have fz1 := hx2.frozen 1 rfl
    have cz2 := hx2.cell 2 rfl
    have fz2 := hx2.frozen 2 rfl
    have cz3 := hx2.cell 3 rfl
    have fz3 := hx2.frozen 3 rfl
    have cz4 := hx2.cell 4 rfl
    have fz4 := hx2.frozen 4 rfl
    have cz5 := hx2.cell 5 rfl
    have fz5 := hx2.frozen 5 rfl
    have cz6 := hx2.cell 6 rfl
    have fz6 := hx2.frozen 6 rfl
    have cz7 := hx2.cell 7 rfl
    have fz7 := hx2.frozen 7 rfl
    have hyz := hx2.lt
    have HB2 := Lib.hid hB2
    have HX2 := Lib.hid hx2
    clear hB2 hx2 hb2
    go_wp2
    have hbf := fill8 HB2.out (Nat.le_refl _) HX2.out (.int .i64 0) (.int .i64 0) (.int .i64 0) (.int .i64 0) (.int .i64 0) (.int .i64 0) (.int .i64 0) (.int .i64 0)
    revert hbf
    generalize World.setCell _ _ _ = w9
    rintro ⟨hbf, hbel⟩
    have k0 := hbf.cell 0 rfl
    have k1 := hbf.cell 1 rfl
    have k2 := hbf.cell 2 rfl
    have k3 := hbf.cell 3 rfl
    have k4 := hbf.cell 4 rfl
    have k5 := hbf.cell 5 rfl
    have k6 := hbf.cell 6 rfl
    have k7 := hbf.cell 7 rfl
    refine bodyPost_ret (by simp [results, Tryz.results7, go_sem, k0, k1, k2, k3, k4, k5, k6, k7]; try rfl) rfl ?_
    exact ⟨by rw [NV_none ho]; rfl, hbel⟩
  | some l =>
    rw [ho] at hN
    obtain ⟨B, c2, rfl, hR2, hb2⟩ := hN
    have hB2 := HB1.out.trans (hb2.mono HB1.out.size)
    have hx2 := HX1.out.below hb2 HX1.out.lt
    have HRW := Lib.hid (HR.out.below hb2)
    have cz0 := hx2.cell 0 rfl
    have fz0 := hx2.frozen 0 rfl
    have cz1 := hx2.cell 1 rfl
    have fz1 := hx2.frozen 1 rfl
    have cz2 := hx2.cell 2 rfl
    have fz2 := hx2.frozen 2 rfl
    have cz3 := hx2.cell 3 rfl
    have fz3 := hx2.frozen 3 rfl
    have cz4 := hx2.cell 4 rfl
    have fz4 := hx2.frozen 4 rfl
    have cz5 := hx2.cell 5 rfl
    have fz5 := hx2.frozen 5 rfl
    have cz6 := hx2.cell 6 rfl
    have fz6 := hx2.frozen 6 rfl
    have cz7 := hx2.cell 7 rfl
    have fz7 := hx2.frozen 7 rfl
    have hyz := hx2.lt
    have HB2 := Lib.hid hB2
    have HX2 := Lib.hid hx2
    clear hB2 hx2 hb2
    by_cases h8 : l.length = 8
    · have HR2 := Lib.hid hR2
      have H8 := Lib.hid h8
      rw [h8]
      clear hR2 h8
      have hmin := slices_MinI B c2 l w2 HR2.out (by rw [H8.out]; omega) (by rw [H8.out]; omega)
      rw [H8.out] at hmin
      have HMN := Lib.hid hmin
      clear hmin
      go_wp2_with fail
      refine HMN.out.mono ?_
      rintro e w3 ⟨m, rfl, hm, hww⟩
      rw [hww]
      clear hww
      cases hn : l.any (fun x => decide (x < 0))
      · have g1 : ¬ m < 0 := by rw [hn] at hm; exact of_decide_eq_false hm.symm
        clear hm
        have HN := Lib.hid hn
        clear hn
        go_wp2_with fail
        refine (slices_ContainsFuncW A d ws _ HRW.out (HC.out.len HS.out) (HC.out.mod HS.out)).mono ?_
        rintro e w4 ⟨rfl, hww⟩
        rw [← hww]
        clear hww
        cases hw : ws.any (fun s => decide (18 < s.size))
        · have HW := Lib.hid hw
          clear hw
          have h8 := H8.out
          obtain ⟨xa, xb, xc, xd, xe, xf, xg, xi, rfl⟩ := list8 h8
          obtain ⟨b, off, rfl, hb, hat⟩ := HR2.out.opened (k := 0) (by simp)
          have t0 := ints0 hat 0 rfl
          have t1 := ints0 hat 1 rfl
          have t2 := ints0 hat 2 rfl
          have t3 := ints0 hat 3 rfl
          have t4 := ints0 hat 4 rfl
          have t5 := ints0 hat 5 rfl
          have t6 := ints0 hat 6 rfl
          have t7 := ints0 hat 7 rfl
          simp only [Nat.add_zero] at t0
          clear hat h8
          go_wp2_with fail
          refine wp_region_tb (R := Nat) [some 31, some 32, some 33, some 34, some 35, some 36, some 37, some 38, some 39, some 40, some 41, some 42, some 43, some 44, some 45, some 46, some 47, some 48, some 49, some 50, some 51, some 52, some 53, some 54, some 55, none, some 3] _ (by intro u; simp only [frs, Act.put, List.setIfInBounds_toArray, List.set_cons_zero, List.set_cons_succ, Nat.reduceAdd]; exact rfl) (fun ρ j => ([.slice (some ⟨b, off, none⟩) 8 c2, .pointer (some ⟨b, off, none⟩), .int .i64 xa, .slice (some ⟨b, off, none⟩) 8 c2, .pointer (some ⟨b, off + 1, none⟩), .int .i64 xb, .slice (some ⟨b, off, none⟩) 8 c2, .pointer (some ⟨b, off + 2, none⟩), .int .i64 xc, .slice (some ⟨b, off, none⟩) 8 c2, .pointer (some ⟨b, off + 3, none⟩), .int .i64 xd, .slice (some ⟨b, off, none⟩) 8 c2, .pointer (some ⟨b, off + 4, none⟩), .int .i64 xe, .slice (some ⟨b, off, none⟩) 8 c2, .pointer (some ⟨b, off + 5, none⟩), .int .i64 xf, .slice (some ⟨b, off, none⟩) 8 c2, .pointer (some ⟨b, off + 6, none⟩), .int .i64 xg, .slice (some ⟨b, off, none⟩) 8 c2, .pointer (some ⟨b, off + 7, none⟩), .int .i64 xi, .agg #[.int .i64 xa, .int .i64 xb, .int .i64 xc, .int .i64 xd, .int .i64 xe, .int .i64 xf, .int .i64 xg, .int .i64 xi], undef, .bool true] : List Value).getD j undef) (WO w2 w.heap.size 25 [.int .i64 0, .int .i64 0, .int .i64 0, .int .i64 0, .int .i64 0, .int .i64 0, .int .i64 0, .int .i64 0] [.int .i64 xa, .int .i64 xb, .int .i64 xc, .int .i64 xd, .int .i64 xe, .int .i64 xf, .int .i64 xg, .int .i64 xi]) (by kernel_rfl) (by kernel_rfl) 0 (WO.start (Below.drew (Below.refl _ _)) HX2.out) ?_ ?_
          · intro ii hii L ρ u wx hl hp hc hu hn hW
            have hii : ii < 27 := hii
            have HNo := Lib.hid hn
            clear hn
            have hii : ii = 0 ∨ ii = 1 ∨ ii = 2 ∨ ii = 3 ∨ ii = 4 ∨ ii = 5 ∨ ii = 6 ∨ ii = 7 ∨ ii = 8 ∨ ii = 9 ∨ ii = 10 ∨ ii = 11 ∨ ii = 12 ∨ ii = 13 ∨ ii = 14 ∨ ii = 15 ∨ ii = 16 ∨ ii = 17 ∨ ii = 18 ∨ ii = 19 ∨ ii = 20 ∨ ii = 21 ∨ ii = 22 ∨ ii = 23 ∨ ii = 24 ∨ ii = 25 ∨ ii = 26 := by omega
            rcases hii with rfl | rfl | rfl | rfl | rfl | rfl | rfl | rfl | rfl | rfl | rfl | rfl | rfl | rfl | rfl | rfl | rfl | rfl | rfl | rfl | rfl | rfl | rfl | rfl | rfl | rfl | rfl
            · refine wpOp_go (E := True) rfl rfl (fun K' hK => ?_)
              go_simp
              refine hK.out _ _ ⟨ρ, (by simp only [put]; rfl), fun _ _ => rfl, hW.pure (by omega)⟩
            · have e0 : u 0 = .slice (some ⟨b, off, none⟩) 8 c2 := hu 0 (all_of hp (by kernel_rfl))
              refine wpOp_go (E := True) rfl rfl (fun K' hK => ?_)
              go_simp
              refine hK.out _ _ ⟨ρ, (by simp only [put, e0]; rfl), fun _ _ => rfl, hW.pure (by omega)⟩
            · have e1 : u 1 = .pointer (some ⟨b, off, none⟩) := hu 1 (all_of hp (by kernel_rfl))
              have nks : L 25 = false := no_later hc hl (by kernel_rfl)
              have s0 := ((hW.z0 nks).1.cell (p := ⟨b, off, none⟩) hb).trans t0
              refine wpOp_go (E := True) rfl rfl (fun K' hK => ?_)
              go_simp
              refine hK.out _ _ ⟨ρ, (by simp only [put, e1]; rfl), fun _ _ => rfl, hW.pure (by omega)⟩
            · refine wpOp_go (E := True) rfl rfl (fun K' hK => ?_)
              go_simp
              refine hK.out _ _ ⟨ρ, (by simp only [put]; rfl), fun _ _ => rfl, hW.pure (by omega)⟩
            · have e3 : u 3 = .slice (some ⟨b, off, none⟩) 8 c2 := hu 3 (all_of hp (by kernel_rfl))
              refine wpOp_go (E := True) rfl rfl (fun K' hK => ?_)
              go_simp
              refine hK.out _ _ ⟨ρ, (by simp only [put, e3]; rfl), fun _ _ => rfl, hW.pure (by omega)⟩
            · have e4 : u 4 = .pointer (some ⟨b, off + 1, none⟩) := hu 4 (all_of hp (by kernel_rfl))
              have nks : L 25 = false := no_later hc hl (by kernel_rfl)
              have s1 := ((hW.z0 nks).1.cell (p := ⟨b, off + 1, none⟩) hb).trans t1
              refine wpOp_go (E := True) rfl rfl (fun K' hK => ?_)
              go_simp
              refine hK.out _ _ ⟨ρ, (by simp only [put, e4]; rfl), fun _ _ => rfl, hW.pure (by omega)⟩
            · refine wpOp_go (E := True) rfl rfl (fun K' hK => ?_)
              go_simp
              refine hK.out _ _ ⟨ρ, (by simp only [put]; rfl), fun _ _ => rfl, hW.pure (by omega)⟩
            · have e6 : u 6 = .slice (some ⟨b, off, none⟩) 8 c2 := hu 6 (all_of hp (by kernel_rfl))
              refine wpOp_go (E := True) rfl rfl (fun K' hK => ?_)
              go_simp
              refine hK.out _ _ ⟨ρ, (by simp only [put, e6]; rfl), fun _ _ => rfl, hW.pure (by omega)⟩
            · have e7 : u 7 = .pointer (some ⟨b, off + 2, none⟩) := hu 7 (all_of hp (by kernel_rfl))
              have nks : L 25 = false := no_later hc hl (by kernel_rfl)
              have s2 := ((hW.z0 nks).1.cell (p := ⟨b, off + 2, none⟩) hb).trans t2
              refine wpOp_go (E := True) rfl rfl (fun K' hK => ?_)
              go_simp
              refine hK.out _ _ ⟨ρ, (by simp only [put, e7]; rfl), fun _ _ => rfl, hW.pure (by omega)⟩
            · refine wpOp_go (E := True) rfl rfl (fun K' hK => ?_)
              go_simp
              refine hK.out _ _ ⟨ρ, (by simp only [put]; rfl), fun _ _ => rfl, hW.pure (by omega)⟩
            · have e9 : u 9 = .slice (some ⟨b, off, none⟩) 8 c2 := hu 9 (all_of hp (by kernel_rfl))
              refine wpOp_go (E := True) rfl rfl (fun K' hK => ?_)
              go_simp
              refine hK.out _ _ ⟨ρ, (by simp only [put, e9]; rfl), fun _ _ => rfl, hW.pure (by omega)⟩
            · have e10 : u 10 = .pointer (some ⟨b, off + 3, none⟩) := hu 10 (all_of hp (by kernel_rfl))
              have nks : L 25 = false := no_later hc hl (by kernel_rfl)
              have s3 := ((hW.z0 nks).1.cell (p := ⟨b, off + 3, none⟩) hb).trans t3
              refine wpOp_go (E := True) rfl rfl (fun K' hK => ?_)
              go_simp
              refine hK.out _ _ ⟨ρ, (by simp only [put, e10]; rfl), fun _ _ => rfl, hW.pure (by omega)⟩
            · refine wpOp_go (E := True) rfl rfl (fun K' hK => ?_)
              go_simp
              refine hK.out _ _ ⟨ρ, (by simp only [put]; rfl), fun _ _ => rfl, hW.pure (by omega)⟩
            · have e12 : u 12 = .slice (some ⟨b, off, none⟩) 8 c2 := hu 12 (all_of hp (by kernel_rfl))
              refine wpOp_go (E := True) rfl rfl (fun K' hK => ?_)
              go_simp
              refine hK.out _ _ ⟨ρ, (by simp only [put, e12]; rfl), fun _ _ => rfl, hW.pure (by omega)⟩
            · have e13 : u 13 = .pointer (some ⟨b, off + 4, none⟩) := hu 13 (all_of hp (by kernel_rfl))
              have nks : L 25 = false := no_later hc hl (by kernel_rfl)
              have s4 := ((hW.z0 nks).1.cell (p := ⟨b, off + 4, none⟩) hb).trans t4
              refine wpOp_go (E := True) rfl rfl (fun K' hK => ?_)
              go_simp
              refine hK.out _ _ ⟨ρ, (by simp only [put, e13]; rfl), fun _ _ => rfl, hW.pure (by omega)⟩
            · refine wpOp_go (E := True) rfl rfl (fun K' hK => ?_)
              go_simp
              refine hK.out _ _ ⟨ρ, (by simp only [put]; rfl), fun _ _ => rfl, hW.pure (by omega)⟩
            · have e15 : u 15 = .slice (some ⟨b, off, none⟩) 8 c2 := hu 15 (all_of hp (by kernel_rfl))
              refine wpOp_go (E := True) rfl rfl (fun K' hK => ?_)
              go_simp
              refine hK.out _ _ ⟨ρ, (by simp only [put, e15]; rfl), fun _ _ => rfl, hW.pure (by omega)⟩
            · have e16 : u 16 = .pointer (some ⟨b, off + 5, none⟩) := hu 16 (all_of hp (by kernel_rfl))
              have nks : L 25 = false := no_later hc hl (by kernel_rfl)
              have s5 := ((hW.z0 nks).1.cell (p := ⟨b, off + 5, none⟩) hb).trans t5
              refine wpOp_go (E := True) rfl rfl (fun K' hK => ?_)
              go_simp
              refine hK.out _ _ ⟨ρ, (by simp only [put, e16]; rfl), fun _ _ => rfl, hW.pure (by omega)⟩
            · refine wpOp_go (E := True) rfl rfl (fun K' hK => ?_)
              go_simp
              refine hK.out _ _ ⟨ρ, (by simp only [put]; rfl), fun _ _ => rfl, hW.pure (by omega)⟩
            · have e18 : u 18 = .slice (some ⟨b, off, none⟩) 8 c2 := hu 18 (all_of hp (by kernel_rfl))
              refine wpOp_go (E := True) rfl rfl (fun K' hK => ?_)
              go_simp
              refine hK.out _ _ ⟨ρ, (by simp only [put, e18]; rfl), fun _ _ => rfl, hW.pure (by omega)⟩
            · have e19 : u 19 = .pointer (some ⟨b, off + 6, none⟩) := hu 19 (all_of hp (by kernel_rfl))
              have nks : L 25 = false := no_later hc hl (by kernel_rfl)
              have s6 := ((hW.z0 nks).1.cell (p := ⟨b, off + 6, none⟩) hb).trans t6
              refine wpOp_go (E := True) rfl rfl (fun K' hK => ?_)
              go_simp
              refine hK.out _ _ ⟨ρ, (by simp only [put, e19]; rfl), fun _ _ => rfl, hW.pure (by omega)⟩
            · refine wpOp_go (E := True) rfl rfl (fun K' hK => ?_)
              go_simp
              refine hK.out _ _ ⟨ρ, (by simp only [put]; rfl), fun _ _ => rfl, hW.pure (by omega)⟩
            · have e21 : u 21 = .slice (some ⟨b, off, none⟩) 8 c2 := hu 21 (all_of hp (by kernel_rfl))
              refine wpOp_go (E := True) rfl rfl (fun K' hK => ?_)
              go_simp
              refine hK.out _ _ ⟨ρ, (by simp only [put, e21]; rfl), fun _ _ => rfl, hW.pure (by omega)⟩
            · have e22 : u 22 = .pointer (some ⟨b, off + 7, none⟩) := hu 22 (all_of hp (by kernel_rfl))
              have nks : L 25 = false := no_later hc hl (by kernel_rfl)
              have s7 := ((hW.z0 nks).1.cell (p := ⟨b, off + 7, none⟩) hb).trans t7
              refine wpOp_go (E := True) rfl rfl (fun K' hK => ?_)
              go_simp
              refine hK.out _ _ ⟨ρ, (by simp only [put, e22]; rfl), fun _ _ => rfl, hW.pure (by omega)⟩
            · have e2 : u 2 = .int .i64 xa := hu 2 (all_of hp (by kernel_rfl))
              have e5 : u 5 = .int .i64 xb := hu 5 (all_of hp (by kernel_rfl))
              have e8 : u 8 = .int .i64 xc := hu 8 (all_of hp (by kernel_rfl))
              have e11 : u 11 = .int .i64 xd := hu 11 (all_of hp (by kernel_rfl))
              have e14 : u 14 = .int .i64 xe := hu 14 (all_of hp (by kernel_rfl))
              have e17 : u 17 = .int .i64 xf := hu 17 (all_of hp (by kernel_rfl))
              have e20 : u 20 = .int .i64 xg := hu 20 (all_of hp (by kernel_rfl))
              have e23 : u 23 = .int .i64 xi := hu 23 (all_of hp (by kernel_rfl))
              refine wpOp_go (E := True) rfl rfl (fun K' hK => ?_)
              go_simp
              refine hK.out _ _ ⟨ρ, (by simp only [put, e2, e5, e8, e11, e14, e17, e20, e23]; rfl), fun _ _ => rfl, hW.pure (by omega)⟩
            · have e24 : u 24 = .agg #[.int .i64 xa, .int .i64 xb, .int .i64 xc, .int .i64 xd, .int .i64 xe, .int .i64 xf, .int .i64 xg, .int .i64 xi] := hu 24 (all_of hp (by kernel_rfl))
              have hq := (hW.z0 hl).2
              have hq0 := hq.cell 0 rfl
              have hf0 := hq.frozen 0 rfl
              have hq1 := hq.cell 1 rfl
              have hf1 := hq.frozen 1 rfl
              have hq2 := hq.cell 2 rfl
              have hf2 := hq.frozen 2 rfl
              have hq3 := hq.cell 3 rfl
              have hf3 := hq.frozen 3 rfl
              have hq4 := hq.cell 4 rfl
              have hf4 := hq.frozen 4 rfl
              have hq5 := hq.cell 5 rfl
              have hf5 := hq.frozen 5 rfl
              have hq6 := hq.cell 6 rfl
              have hf6 := hq.frozen 6 rfl
              have hq7 := hq.cell 7 rfl
              have hf7 := hq.frozen 7 rfl
              refine wpOp_go (E := True) rfl rfl (fun K' hK => ?_)
              go_simp
              refine hK.out _ _ ⟨ρ, (by simp only [put, e24]; rfl), fun _ _ => rfl, hW.store hl (keep8 _ _ _ _ _ _ _ _) (bx_fill8 hq _ _ _ _ _ _ _ _)⟩
            · refine wpOp_go (E := True) rfl rfl (fun K' hK => ?_)
              go_simp
              refine hK.out _ _ ⟨ρ, (by simp only [put]; rfl), fun _ _ => rfl, hW.pure (by omega)⟩
          · intro L ρ u wx hall hu hW
            have e26 : u 26 = .bool true := hu 26 (by show 26 < 27; omega)
            rw [e26]
            obtain ⟨hk9, hbf⟩ := hW.z1 (hall 25 (by show 25 < 27; omega))
            have hbel := hk9.below HB2.out HB2.out.size (fun k z => by rw [z]; exact Nat.le_refl _)
            clear hu hall hW e26 hk9 hyz t0 cz0 fz0 t1 cz1 fz1 t2 cz2 fz2 t3 cz3 fz3 t4 cz4 fz4 t5 cz5 fz5 t6 cz6 fz6 t7 cz7 fz7
            go_wp2
            have k0 := hbf.cell 0 rfl
            have k1 := hbf.cell 1 rfl
            have k2 := hbf.cell 2 rfl
            have k3 := hbf.cell 3 rfl
            have k4 := hbf.cell 4 rfl
            have k5 := hbf.cell 5 rfl
            have k6 := hbf.cell 6 rfl
            have k7 := hbf.cell 7 rfl
            refine bodyPost_ret (by simp [results, Tryz.results7, go_sem, k0, k1, k2, k3, k4, k5, k6, k7]; try rfl) rfl ?_
            exact ⟨by rw [NV_all HC.out HW.out HN.out ho]; rfl, hbel⟩
        · have HW := Lib.hid hw
          clear hw
          go_wp2
          have hbf := fill8 HB2.out (Nat.le_refl _) HX2.out (.int .i64 0) (.int .i64 0) (.int .i64 0) (.int .i64 0) (.int .i64 0) (.int .i64 0) (.int .i64 0) (.int .i64 0)
          revert hbf
          generalize World.setCell _ _ _ = w9
          rintro ⟨hbf, hbel⟩
          have k0 := hbf.cell 0 rfl
          have k1 := hbf.cell 1 rfl
          have k2 := hbf.cell 2 rfl
          have k3 := hbf.cell 3 rfl
          have k4 := hbf.cell 4 rfl
          have k5 := hbf.cell 5 rfl
          have k6 := hbf.cell 6 rfl
          have k7 := hbf.cell 7 rfl
          refine bodyPost_ret (by simp [results, Tryz.results7, go_sem, k0, k1, k2, k3, k4, k5, k6, k7]; try rfl) rfl ?_
          exact ⟨by rw [NV_word HC.out HW.out]; rfl, hbel⟩
      · have g1 : m < 0 := by rw [hn] at hm; exact of_decide_eq_true hm.symm
        clear hm
        have HN := Lib.hid hn
        clear hn
        go_wp2
        have hbf := fill8 HB2.out (Nat.le_refl _) HX2.out (.int .i64 0) (.int .i64 0) (.int .i64 0) (.int .i64 0) (.int .i64 0) (.int .i64 0) (.int .i64 0) (.int .i64 0)
        revert hbf
        generalize World.setCell _ _ _ = w9
        rintro ⟨hbf, hbel⟩
        have k0 := hbf.cell 0 rfl
        have k1 := hbf.cell 1 rfl
        have k2 := hbf.cell 2 rfl
        have k3 := hbf.cell 3 rfl
        have k4 := hbf.cell 4 rfl
        have k5 := hbf.cell 5 rfl
        have k6 := hbf.cell 6 rfl
        have k7 := hbf.cell 7 rfl
        refine bodyPost_ret (by simp [results, Tryz.results7, go_sem, k0, k1, k2, k3, k4, k5, k6, k7]; try rfl) rfl ?_
        exact ⟨by rw [NV_neg ho HN.out]; rfl, hbel⟩
    · have HR8 := Lib.hid h8
      have g8 : ((l.length : Int) == 8) = false := by simp; omega
      go_wp2
      have hbf := fill8 HB2.out (Nat.le_refl _) HX2.out (.int .i64 0) (.int .i64 0) (.int .i64 0) (.int .i64 0) (.int .i64 0) (.int .i64 0) (.int .i64 0) (.int .i64 0)
      revert hbf
      generalize World.setCell _ _ _ = w9
      rintro ⟨hbf, hbel⟩
      have k0 := hbf.cell 0 rfl
      have k1 := hbf.cell 1 rfl
      have k2 := hbf.cell 2 rfl
      have k3 := hbf.cell 3 rfl
      have k4 := hbf.cell 4 rfl
      have k5 := hbf.cell 5 rfl
      have k6 := hbf.cell 6 rfl
      have k7 := hbf.cell 7 rfl
      refine bodyPost_ret (by simp [results, Tryz.results7, go_sem, k0, k1, k2, k3, k4, k5, k6, k7]; try rfl) rfl ?_
      exact ⟨by rw [rcL_lenV ho HR8.out]; rfl, hbel⟩
end Go.Proofs.YtbdacplndmnkhaaGreatDoor
