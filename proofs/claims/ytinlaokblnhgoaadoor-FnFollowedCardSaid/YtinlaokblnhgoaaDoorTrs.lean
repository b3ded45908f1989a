/- ReadStore. -/
import Derived.Test.YtinlaokblnhgoaaDoorTrp
import Derived.Test.YtinlaokblnhgoaaDoorRgo
namespace Go.Proofs.YtinlaokblnhgoaaDoor
set_option linter.unusedVariables false
set_option linter.unusedSimpArgs false
open Go.RowKit
theorem Bx.set_ {w : World} {b : Nat} {cs : List Value} (h : Bx w b cs) (i : Nat) (v : Value) (hi : i < cs.length) : Bx (w.setCell ⟨b, i, none⟩ v) b (cs.set i v) := by
  have hy := h.lt
  refine ⟨by simpa [World.setCell] using hy, fun k u e => ?_⟩
  by_cases hk : i = k
  · subst hk
    have c := h.cell i (List.getElem?_eq_getElem hi)
    have f := h.frozen i (List.getElem?_eq_getElem hi)
    rw [List.getElem?_set_self hi] at e
    injection e with e; subst e
    constructor <;> simp [go_sem, c, f, hy]
  · rw [List.getElem?_set_ne hk] at e
    have c := h.cell k e
    have f := h.frozen k e
    have hk2 : ¬ k = i := fun q => hk q.symm
    constructor <;> simp [go_sem, c, f, hy, hk, hk2]
theorem bx_fill5 {w : World} {b : Nat} {z0 z1 z2 z3 z4 : Value} (h : Bx w b [z0, z1, z2, z3, z4]) (v0 v1 v2 v3 v4 : Value) : Bx (((((w.setCell ⟨b, 0, none⟩ v0).setCell ⟨b, 1, none⟩ v1).setCell ⟨b, 2, none⟩ v2).setCell ⟨b, 3, none⟩ v3).setCell ⟨b, 4, none⟩ v4) b [v0, v1, v2, v3, v4] :=
  ((((h.set_ 0 v0 (by simp)).set_ 1 v1 (by simp)).set_ 2 v2 (by simp)).set_ 3 v3 (by simp)).set_ 4 v4 (by simp)
theorem keep5 {w : World} {b : Nat} (v0 v1 v2 v3 v4 : Value) : Keep (· = b) w (((((w.setCell ⟨b, 0, none⟩ v0).setCell ⟨b, 1, none⟩ v1).setCell ⟨b, 2, none⟩ v2).setCell ⟨b, 3, none⟩ v3).setCell ⟨b, 4, none⟩ v4) :=
  (((((Keep.refl (· = b) w).setCell rfl v0).setCell rfl v1).setCell rfl v2).setCell rfl v3).setCell rfl v4
theorem fill5 {w wr : World} {b B : Nat} {z0 z1 z2 z3 z4 : Value} (hB : Below B w wr) (hb : B ≤ b) (h : Bx wr b [z0, z1, z2, z3, z4]) (v0 v1 v2 v3 v4 : Value) : Bx (((((wr.setCell ⟨b, 0, none⟩ v0).setCell ⟨b, 1, none⟩ v1).setCell ⟨b, 2, none⟩ v2).setCell ⟨b, 3, none⟩ v3).setCell ⟨b, 4, none⟩ v4) b [v0, v1, v2, v3, v4] ∧
    Below B w (((((wr.setCell ⟨b, 0, none⟩ v0).setCell ⟨b, 1, none⟩ v1).setCell ⟨b, 2, none⟩ v2).setCell ⟨b, 3, none⟩ v3).setCell ⟨b, 4, none⟩ v4) :=
  ⟨bx_fill5 h v0 v1 v2 v3 v4, ((((hB.setCell hb v0).setCell hb v1).setCell hb v2).setCell hb v3).setCell hb v4⟩
theorem ints0 {w : World} {b off : Nat} {l : List Int} (h : RdAt w b off (l.map iV)) (k : Nat) {n : Int} (hk : l[k]? = some n) : w.cell? ⟨b, off + k, none⟩ = some (.int .i64 n) := ints_at h hk
set_option maxRecDepth 100000 in
set_option maxHeartbeats 4000000 in
theorem impl_ReadStore (s : ByteArray) (w : World) (hs : Mod s) (ht : Tabs w) :
    Calls Tryd.prog 9 #[.string s] w fun e w' => e = .returned (rsV (rsL (mapO rdN (spl 47 (bl s))))) ∧ Below w.heap.size w w' := by
  have HT := Lib.hid ht
  clear ht
  have HS := Lib.hid hs
  clear hs
  go_enter Tryd.func9, Tryd.ntmps9
  go_wp2_with fail
  generalize hW0 : World.alloc w _ = w0
  have hb0 : Below w.heap.size w w0 := by rw [← hW0]; (repeat' (first | (with_reducible exact Below.refl _ _) | (with_reducible assumption) | (with_reducible refine Below.alloc ?_ ?_ _) | (with_reducible refine Below.drew ?_) | (with_reducible refine Below.drewN' ?_ _) | (with_reducible refine Below.setCell ?_ ?_ _) | (refine Below.via ?_ (by with_reducible assumption) ?_) | (with_reducible refine Below.via ?_ (Wd.h _) ?_) | go_size))
  have hx0 : Bx w0 w.heap.size [.int .i64 0, .int .i64 0, .int .i64 0, .int .i64 0, .int .i64 0] := by rw [← hW0]; exact bx5 (by simp) (by simp) (by simp) (by simp) (by simp) (by simp) (by simp) (by simp) (by simp) (by simp) (by simp)
  clear hW0
  refine (split_one s 47 _ HS.out (HT.out.below hb0)).mono ?_
  rintro e w1 ⟨A, d, ws, rfl, hcut, hr, hb1⟩
  have hB1 : Below w.heap.size w w1 := hb0.trans (hb1.mono hb0.size)
  have hx1 := hx0.below hb1 hx0.lt
  have HC := Lib.hid hcut
  have HR := Lib.hid hr
  have HB1 := Lib.hid hB1
  have HX1 := Lib.hid hx1
  clear hb0 hx0 hb1 hB1 hx1 hr hcut
  go_wp2_with fail
  refine (impl_readNumbers A d ws _ HR.out (HC.out.len HS.out) (HC.out.mod HS.out) (HT.out.below HB1.out)).mono ?_
  intro e w2 hN
  rw [HC.out.eq] at hN
  cases ho : mapO rdN (spl 47 (bl s)) with
  | none =>
    rw [ho] at hN
    obtain ⟨rfl, hb2⟩ := hN
    have hB2 := HB1.out.trans (hb2.mono HB1.out.size)
    have hx2 := HX1.out.below hb2 HX1.out.lt
    have cz0 := hx2.cell 0 rfl
    have fz0 := hx2.frozen 0 rfl
    have cz1 := hx2.cell 1 rfl
    have fz1 := hx2.frozen 1 rfl
    have cz2 := hx2.cell 2 rfl
    have fz2 := hx2.frozen 2 rfl
    have cz3 := hx2.cell 3 rfl
    have fz3 := hx2.frozen 3 rfl
    have cz4 := hx2.cell 4 rfl
    have fz4 := hx2.frozen 4 rfl
    have hyz := hx2.lt
    have HB2 := Lib.hid hB2
    have HX2 := Lib.hid hx2
    clear hB2 hx2 hb2
    go_wp2
    have hbf := fill5 HB2.out (Nat.le_refl _) HX2.out (.int .i64 0) (.int .i64 0) (.int .i64 0) (.int .i64 0) (.int .i64 0)
    revert hbf
    generalize World.setCell _ _ _ = w9
    rintro ⟨hbf, hbel⟩
    have k0 := hbf.cell 0 rfl
    have k1 := hbf.cell 1 rfl
    have k2 := hbf.cell 2 rfl
    have k3 := hbf.cell 3 rfl
    have k4 := hbf.cell 4 rfl
    refine bodyPost_ret (by simp [results, Tryd.results9, go_sem, k0, k1, k2, k3, k4]; try rfl) rfl ?_
    exact ⟨by rw [ho]; rfl, hbel⟩
  | some l =>
    rw [ho] at hN
    obtain ⟨B, c2, rfl, hR2, hb2⟩ := hN
    have hB2 := HB1.out.trans (hb2.mono HB1.out.size)
    have hx2 := HX1.out.below hb2 HX1.out.lt
    have cz0 := hx2.cell 0 rfl
    have fz0 := hx2.frozen 0 rfl
    have cz1 := hx2.cell 1 rfl
    have fz1 := hx2.frozen 1 rfl
    have cz2 := hx2.cell 2 rfl
    have fz2 := hx2.frozen 2 rfl
    have cz3 := hx2.cell 3 rfl
    have fz3 := hx2.frozen 3 rfl
    have cz4 := hx2.cell 4 rfl
    have fz4 := hx2.frozen 4 rfl
    have hyz := hx2.lt
    have HB2 := Lib.hid hB2
    have HX2 := Lib.hid hx2
    clear hB2 hx2 hb2
    by_cases h5 : l.length = 5
    · rw [h5]
      obtain ⟨xa, xb, xc, xd, xe, rfl⟩ := list5 h5
      obtain ⟨b, off, rfl, hb, hat⟩ := hR2.opened (k := 0) (by simp)
      have t0 := ints0 hat 0 rfl
      have t1 := ints0 hat 1 rfl
      have t2 := ints0 hat 2 rfl
      have t3 := ints0 hat 3 rfl
      have t4 := ints0 hat 4 rfl
      simp only [Nat.add_zero] at t0
      clear hat hR2 h5
      go_wp2_with fail
      refine wp_region_tb (R := Nat) [some 21, some 22, some 23, some 24, some 25, some 26, some 27, some 28, some 29, some 30, some 31, some 32, some 33, some 34, some 35, some 36, some 6, none] _ (by intro u; simp only [frs, Act.put, List.setIfInBounds_toArray, List.set_cons_zero, List.set_cons_succ, Nat.reduceAdd]; exact rfl) (fun ρ j => ([.slice (some ⟨b, off, none⟩) 5 c2, .pointer (some ⟨b, off, none⟩), .int .i64 xa, .slice (some ⟨b, off, none⟩) 5 c2, .pointer (some ⟨b, off + 1, none⟩), .int .i64 xb, .slice (some ⟨b, off, none⟩) 5 c2, .pointer (some ⟨b, off + 2, none⟩), .int .i64 xc, .slice (some ⟨b, off, none⟩) 5 c2, .pointer (some ⟨b, off + 3, none⟩), .int .i64 xd, .slice (some ⟨b, off, none⟩) 5 c2, .pointer (some ⟨b, off + 4, none⟩), .int .i64 xe, .agg #[.int .i64 xa, .int .i64 xb, .int .i64 xc, .int .i64 xd, .int .i64 xe], .pointer (some ⟨ρ, 0, none⟩), undef] : List Value).getD j undef) (WX w2 16 17 [.int .i64 0, .int .i64 0, .int .i64 0, .int .i64 0, .int .i64 0] [.int .i64 xa, .int .i64 xb, .int .i64 xc, .int .i64 xd, .int .i64 xe]) (by kernel_rfl) (by kernel_rfl) 0 (WX.start (Below.drew (Below.refl _ _))) ?_ ?_
      · intro ii hii L ρ u wx hl hp hc hu hn hW
        have hii : ii < 18 := hii
        have HNo := Lib.hid hn
        clear hn
        have hii : ii = 0 ∨ ii = 1 ∨ ii = 2 ∨ ii = 3 ∨ ii = 4 ∨ ii = 5 ∨ ii = 6 ∨ ii = 7 ∨ ii = 8 ∨ ii = 9 ∨ ii = 10 ∨ ii = 11 ∨ ii = 12 ∨ ii = 13 ∨ ii = 14 ∨ ii = 15 ∨ ii = 16 ∨ ii = 17 := by omega
        rcases hii with rfl | rfl | rfl | rfl | rfl | rfl | rfl | rfl | rfl | rfl | rfl | rfl | rfl | rfl | rfl | rfl | rfl | rfl
        · refine wpOp_go (E := True) rfl rfl (fun K' hK => ?_)
          go_simp
          refine hK.out _ _ ⟨ρ, (by simp only [put]; rfl), fun _ _ => rfl, hW.pure (by omega) (by omega)⟩
        · have e0 : u 0 = .slice (some ⟨b, off, none⟩) 5 c2 := hu 0 (all_of hp (by kernel_rfl))
          refine wpOp_go (E := True) rfl rfl (fun K' hK => ?_)
          go_simp
          refine hK.out _ _ ⟨ρ, (by simp only [put, e0]; rfl), fun _ _ => rfl, hW.pure (by omega) (by omega)⟩
        · have e1 : u 1 = .pointer (some ⟨b, off, none⟩) := hu 1 (all_of hp (by kernel_rfl))
          have s0 := (hW.bl.cell (p := ⟨b, off, none⟩) hb).trans t0
          refine wpOp_go (E := True) rfl rfl (fun K' hK => ?_)
          go_simp
          refine hK.out _ _ ⟨ρ, (by simp only [put, e1]; rfl), fun _ _ => rfl, hW.pure (by omega) (by omega)⟩
        · refine wpOp_go (E := True) rfl rfl (fun K' hK => ?_)
          go_simp
          refine hK.out _ _ ⟨ρ, (by simp only [put]; rfl), fun _ _ => rfl, hW.pure (by omega) (by omega)⟩
        · have e3 : u 3 = .slice (some ⟨b, off, none⟩) 5 c2 := hu 3 (all_of hp (by kernel_rfl))
          refine wpOp_go (E := True) rfl rfl (fun K' hK => ?_)
          go_simp
          refine hK.out _ _ ⟨ρ, (by simp only [put, e3]; rfl), fun _ _ => rfl, hW.pure (by omega) (by omega)⟩
        · have e4 : u 4 = .pointer (some ⟨b, off + 1, none⟩) := hu 4 (all_of hp (by kernel_rfl))
          have s1 := (hW.bl.cell (p := ⟨b, off + 1, none⟩) hb).trans t1
          refine wpOp_go (E := True) rfl rfl (fun K' hK => ?_)
          go_simp
          refine hK.out _ _ ⟨ρ, (by simp only [put, e4]; rfl), fun _ _ => rfl, hW.pure (by omega) (by omega)⟩
        · refine wpOp_go (E := True) rfl rfl (fun K' hK => ?_)
          go_simp
          refine hK.out _ _ ⟨ρ, (by simp only [put]; rfl), fun _ _ => rfl, hW.pure (by omega) (by omega)⟩
        · have e6 : u 6 = .slice (some ⟨b, off, none⟩) 5 c2 := hu 6 (all_of hp (by kernel_rfl))
          refine wpOp_go (E := True) rfl rfl (fun K' hK => ?_)
          go_simp
          refine hK.out _ _ ⟨ρ, (by simp only [put, e6]; rfl), fun _ _ => rfl, hW.pure (by omega) (by omega)⟩
        · have e7 : u 7 = .pointer (some ⟨b, off + 2, none⟩) := hu 7 (all_of hp (by kernel_rfl))
          have s2 := (hW.bl.cell (p := ⟨b, off + 2, none⟩) hb).trans t2
          refine wpOp_go (E := True) rfl rfl (fun K' hK => ?_)
          go_simp
          refine hK.out _ _ ⟨ρ, (by simp only [put, e7]; rfl), fun _ _ => rfl, hW.pure (by omega) (by omega)⟩
        · refine wpOp_go (E := True) rfl rfl (fun K' hK => ?_)
          go_simp
          refine hK.out _ _ ⟨ρ, (by simp only [put]; rfl), fun _ _ => rfl, hW.pure (by omega) (by omega)⟩
        · have e9 : u 9 = .slice (some ⟨b, off, none⟩) 5 c2 := hu 9 (all_of hp (by kernel_rfl))
          refine wpOp_go (E := True) rfl rfl (fun K' hK => ?_)
          go_simp
          refine hK.out _ _ ⟨ρ, (by simp only [put, e9]; rfl), fun _ _ => rfl, hW.pure (by omega) (by omega)⟩
        · have e10 : u 10 = .pointer (some ⟨b, off + 3, none⟩) := hu 10 (all_of hp (by kernel_rfl))
          have s3 := (hW.bl.cell (p := ⟨b, off + 3, none⟩) hb).trans t3
          refine wpOp_go (E := True) rfl rfl (fun K' hK => ?_)
          go_simp
          refine hK.out _ _ ⟨ρ, (by simp only [put, e10]; rfl), fun _ _ => rfl, hW.pure (by omega) (by omega)⟩
        · refine wpOp_go (E := True) rfl rfl (fun K' hK => ?_)
          go_simp
          refine hK.out _ _ ⟨ρ, (by simp only [put]; rfl), fun _ _ => rfl, hW.pure (by omega) (by omega)⟩
        · have e12 : u 12 = .slice (some ⟨b, off, none⟩) 5 c2 := hu 12 (all_of hp (by kernel_rfl))
          refine wpOp_go (E := True) rfl rfl (fun K' hK => ?_)
          go_simp
          refine hK.out _ _ ⟨ρ, (by simp only [put, e12]; rfl), fun _ _ => rfl, hW.pure (by omega) (by omega)⟩
        · have e13 : u 13 = .pointer (some ⟨b, off + 4, none⟩) := hu 13 (all_of hp (by kernel_rfl))
          have s4 := (hW.bl.cell (p := ⟨b, off + 4, none⟩) hb).trans t4
          refine wpOp_go (E := True) rfl rfl (fun K' hK => ?_)
          go_simp
          refine hK.out _ _ ⟨ρ, (by simp only [put, e13]; rfl), fun _ _ => rfl, hW.pure (by omega) (by omega)⟩
        · have e2 : u 2 = .int .i64 xa := hu 2 (all_of hp (by kernel_rfl))
          have e5 : u 5 = .int .i64 xb := hu 5 (all_of hp (by kernel_rfl))
          have e8 : u 8 = .int .i64 xc := hu 8 (all_of hp (by kernel_rfl))
          have e11 : u 11 = .int .i64 xd := hu 11 (all_of hp (by kernel_rfl))
          have e14 : u 14 = .int .i64 xe := hu 14 (all_of hp (by kernel_rfl))
          refine wpOp_go (E := True) rfl rfl (fun K' hK => ?_)
          go_simp
          refine hK.out _ _ ⟨ρ, (by simp only [put, e2, e5, e8, e11, e14]; rfl), fun _ _ => rfl, hW.pure (by omega) (by omega)⟩
        · have nks : L 17 = false := no_later hc hl (by kernel_rfl)
          refine wpOp_go (E := True) rfl rfl (fun K' hK => ?_)
          go_simp
          generalize hW5 : World.alloc wx _ = w5
          have hb5 : Below wx.heap.size wx w5 := by rw [← hW5]; (repeat' (first | (with_reducible exact Below.refl _ _) | (with_reducible assumption) | (with_reducible refine Below.alloc ?_ ?_ _) | (with_reducible refine Below.drew ?_) | (with_reducible refine Below.drewN' ?_ _) | (with_reducible refine Below.setCell ?_ ?_ _) | (refine Below.via ?_ (by with_reducible assumption) ?_) | (with_reducible refine Below.via ?_ (Wd.h _) ?_) | go_size))
          have hx5 : Bx w5 wx.heap.size [.int .i64 0, .int .i64 0, .int .i64 0, .int .i64 0, .int .i64 0] := by rw [← hW5]; exact bx5 (by simp) (by simp) (by simp) (by simp) (by simp) (by simp) (by simp) (by simp) (by simp) (by simp) (by simp)
          clear hW5
          refine hK.out _ _ ⟨wx.heap.size, (by simp only [put]; rfl), fun j hj => by
              have n17 : L 17 = false := no_later hc hl (by kernel_rfl)
              match j, hj with
              | 0, _ => rfl
              | 1, _ => rfl
              | 2, _ => rfl
              | 3, _ => rfl
              | 4, _ => rfl
              | 5, _ => rfl
              | 6, _ => rfl
              | 7, _ => rfl
              | 8, _ => rfl
              | 9, _ => rfl
              | 10, _ => rfl
              | 11, _ => rfl
              | 12, _ => rfl
              | 13, _ => rfl
              | 14, _ => rfl
              | 15, _ => rfl
              | 16, hj => rw [hl] at hj; cases hj
              | 17, hj => rw [n17] at hj; cases hj
              | _ + 18, _ => rfl, hW.boxed (by omega) nks hb5 hx5⟩
        · have e16 : u 16 = .pointer (some ⟨ρ, 0, none⟩) := hu 16 (all_of hp (by kernel_rfl))
          have e15 : u 15 = .agg #[.int .i64 xa, .int .i64 xb, .int .i64 xc, .int .i64 xd, .int .i64 xe] := hu 15 (all_of hp (by kernel_rfl))
          have hL16 := all_of hp (show (before _ 17).contains 16 = true by kernel_rfl)
          have hq := hW.b1 hL16 hl
          have hq0 := hq.cell 0 rfl
          have hf0 := hq.frozen 0 rfl
          have hq1 := hq.cell 1 rfl
          have hf1 := hq.frozen 1 rfl
          have hq2 := hq.cell 2 rfl
          have hf2 := hq.frozen 2 rfl
          have hq3 := hq.cell 3 rfl
          have hf3 := hq.frozen 3 rfl
          have hq4 := hq.cell 4 rfl
          have hf4 := hq.frozen 4 rfl
          refine wpOp_go (E := True) rfl rfl (fun K' hK => ?_)
          go_simp
          refine hK.out _ _ ⟨ρ, (by simp only [put, e16, e15]; rfl), fun _ _ => rfl, hW.store (by omega) hL16 (keep5 _ _ _ _ _) (bx_fill5 hq _ _ _ _ _)⟩
      · intro L ρ u wx hall hu hW
        have e16 : u 16 = .pointer (some ⟨ρ, 0, none⟩) := hu 16 (by show 16 < 18; omega)
        rw [e16]
        have hbx := hW.b2 (hall 17 (by show 17 < 18; omega))
        have hbl := hW.bl
        have hB3 := HB2.out.trans (hbl.mono HB2.out.size)
        have hx3 := HX2.out.below hbl HX2.out.lt
        have HBX := Lib.hid hbx
        have HB3 := Lib.hid hB3
        have HX3 := Lib.hid hx3
        have c0 := hbx.cell 0 rfl
        have c1 := hbx.cell 1 rfl
        have c2 := hbx.cell 2 rfl
        have c3 := hbx.cell 3 rfl
        have c4 := hbx.cell 4 rfl
        clear hu hall hW e16 hbx hbl hB3 hx3 hyz t0 cz0 fz0 t1 cz1 fz1 t2 cz2 fz2 t3 cz3 fz3 t4 cz4 fz4
        clear HB2 HX2
        go_wp2_with fail
        refine (impl_IsStore xa xb xc xd xe _).mono ?_
        rintro e w4 ⟨rfl, hb4⟩
        have hB4 := HB3.out.trans (hb4.mono HB3.out.size)
        have hx2 := HX3.out.below hb4 HX3.out.lt
        have hbx := HBX.out.below hb4 HBX.out.lt
        have d0 := hbx.cell 0 rfl
        have cz0 := hx2.cell 0 rfl
        have fz0 := hx2.frozen 0 rfl
        have d1 := hbx.cell 1 rfl
        have cz1 := hx2.cell 1 rfl
        have fz1 := hx2.frozen 1 rfl
        have d2 := hbx.cell 2 rfl
        have cz2 := hx2.cell 2 rfl
        have fz2 := hx2.frozen 2 rfl
        have d3 := hbx.cell 3 rfl
        have cz3 := hx2.cell 3 rfl
        have fz3 := hx2.frozen 3 rfl
        have d4 := hbx.cell 4 rfl
        have cz4 := hx2.cell 4 rfl
        have fz4 := hx2.frozen 4 rfl
        have hyz := hx2.lt
        have HB2 := Lib.hid hB4
        have HX2 := Lib.hid hx2
        clear hB4 hx2 hbx hb4 c0 c1 c2 c3 c4
        cases hs : storeB xa xb xc xd xe
        · have HR5 := Lib.hid (rsL_no hs)
          go_wp2
          have hbf := fill5 HB2.out (Nat.le_refl _) HX2.out (.int .i64 0) (.int .i64 0) (.int .i64 0) (.int .i64 0) (.int .i64 0)
          revert hbf
          generalize World.setCell _ _ _ = w9
          rintro ⟨hbf, hbel⟩
          have k0 := hbf.cell 0 rfl
          have k1 := hbf.cell 1 rfl
          have k2 := hbf.cell 2 rfl
          have k3 := hbf.cell 3 rfl
          have k4 := hbf.cell 4 rfl
          refine bodyPost_ret (by simp [results, Tryd.results9, go_sem, k0, k1, k2, k3, k4]; try rfl) rfl ?_
          exact ⟨by rw [ho, HR5.out]; rfl, hbel⟩
        · have HR5 := Lib.hid (rsL_yes hs)
          go_wp2
          have hbf := fill5 HB2.out (Nat.le_refl _) HX2.out (.int .i64 xa) (.int .i64 xb) (.int .i64 xc) (.int .i64 xd) (.int .i64 xe)
          revert hbf
          generalize World.setCell _ _ _ = w9
          rintro ⟨hbf, hbel⟩
          have k0 := hbf.cell 0 rfl
          have k1 := hbf.cell 1 rfl
          have k2 := hbf.cell 2 rfl
          have k3 := hbf.cell 3 rfl
          have k4 := hbf.cell 4 rfl
          refine bodyPost_ret (by simp [results, Tryd.results9, go_sem, k0, k1, k2, k3, k4]; try rfl) rfl ?_
          exact ⟨by rw [ho, HR5.out]; rfl, hbel⟩
    · have HR5 := Lib.hid (rsL_len h5)
      have g5 : ((l.length : Int) == 5) = false := by simp; omega
      go_wp2
      have hbf := fill5 HB2.out (Nat.le_refl _) HX2.out (.int .i64 0) (.int .i64 0) (.int .i64 0) (.int .i64 0) (.int .i64 0)
      revert hbf
      generalize World.setCell _ _ _ = w9
      rintro ⟨hbf, hbel⟩
      have k0 := hbf.cell 0 rfl
      have k1 := hbf.cell 1 rfl
      have k2 := hbf.cell 2 rfl
      have k3 := hbf.cell 3 rfl
      have k4 := hbf.cell 4 rfl
      refine bodyPost_ret (by simp [results, Tryd.results9, go_sem, k0, k1, k2, k3, k4]; try rfl) rfl ?_
      exact ⟨by rw [ho, HR5.out]; rfl, hbel⟩
end Go.Proofs.YtinlaokblnhgoaaDoor
