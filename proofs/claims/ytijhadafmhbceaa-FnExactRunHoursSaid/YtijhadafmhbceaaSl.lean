/- The spec's step of an hour. -/
import Derived.Test.YtijhadafmhbceaaSt
import Derived.Test.YtijhadafmhbceaaSi
namespace Go.Proofs.Ytijhadafmhbceaa
set_option linter.unusedVariables false
set_option linter.unusedSimpArgs false
open Go.RowKit
set_option maxRecDepth 100000 in
set_option maxHeartbeats 8000000 in
theorem spec_l19Step (A B Al Ah An : Option Addr) (n c m d nl nh nn cl ch cn : Nat) (N : Net) (ll lh ln : List Int) (x : Hr) (w : World) (hN : NetAt w A B N) (hn : n = N.nodes.length) (hm : m = N.pipes.length) (hO : N.Ok) (hf : BufAt w Al Ah An ll lh ln) (hk : BufOk N.nodes.length ll lh ln) (e1 : nl = ll.length) (e2 : nh = lh.length) (e3 : nn = ln.length) (hat : HrAt w x) (hx : hrB N.pipes.length N.nodes.length x = true) :
    Calls Try.prog 32 #[netV A B n c m d, bufV Al Ah An nl nh nn cl ch cn, x.val] w (MadeB w (stR N ll lh ln x.fl x.su).1 (stR N ll lh ln x.fl x.su).2) := by
  subst hn hm e1 e2 e3
  have hn1 := hO.n1
  obtain ⟨aL, rfl⟩ := rd_some hf.r1 (by have := hk.l1; cases ll with
    | nil => simp at this; omega
    | cons y l => simp)
  obtain ⟨aH, rfl⟩ := rd_some hf.r2 (by have := hk.l2; cases lh with
    | nil => simp at this; omega
    | cons y l => simp)
  have HN := Lib.hid hN
  have HFb := Lib.hid hf
  have HA := Lib.hid hat
  have HX := Lib.hid hx
  have HO := Lib.hid hO
  have HK := Lib.hid hk
  have hlx : x.fl.length ≤ N.pipes.length := by have := (hrB_of hx).1.1; omega
  have hly : N.pipes.length ≤ x.fl.length := by have := (hrB_of hx).1.1; omega
  have h24 := hO.n2
  have h40 := hO.p1
  clear hN hf hat hx hO hk
  go_enter Try.func32, Try.ntmps32
  go_wp2_with fail
  (generalize hW : (World.alloc (World.alloc (World.alloc (World.alloc w _) _) _) _) = wn; have hbn : Below w.heap.size w wn := (by rw [← hW]; (repeat' (first | (with_reducible exact Below.refl _ _) | (with_reducible assumption) | (with_reducible refine Below.alloc ?_ ?_ _) | (with_reducible refine Below.drew ?_) | (with_reducible refine Below.drewN' ?_ _) | (with_reducible refine Below.setCell ?_ ?_ _) | (refine Below.via ?_ (by with_reducible assumption) ?_) | (with_reducible refine Below.via ?_ (Wd.h _) ?_) | go_size))); have hzn := congrArg (fun W => W.heap.size) hW; simp at hzn; have cw0_0 := congrArg (fun W => World.cell? W ⟨w.heap.size, 0, none⟩) hW.symm; have fw0_0 := congrArg (fun W => World.frozen? W ⟨w.heap.size, 0, none⟩) hW.symm; have hy0 : w.heap.size < wn.heap.size := (by omega); have cw0_1 := congrArg (fun W => World.cell? W ⟨w.heap.size, 1, none⟩) hW.symm; have fw0_1 := congrArg (fun W => World.frozen? W ⟨w.heap.size, 1, none⟩) hW.symm; have cw1_0 := congrArg (fun W => World.cell? W ⟨w.heap.size + 1, 0, none⟩) hW.symm; have fw1_0 := congrArg (fun W => World.frozen? W ⟨w.heap.size + 1, 0, none⟩) hW.symm; have hy1 : w.heap.size + 1 < wn.heap.size := (by omega); have cw1_1 := congrArg (fun W => World.cell? W ⟨w.heap.size + 1, 1, none⟩) hW.symm; have fw1_1 := congrArg (fun W => World.frozen? W ⟨w.heap.size + 1, 1, none⟩) hW.symm; have cw1_2 := congrArg (fun W => World.cell? W ⟨w.heap.size + 1, 2, none⟩) hW.symm; have fw1_2 := congrArg (fun W => World.frozen? W ⟨w.heap.size + 1, 2, none⟩) hW.symm; have cw2_0 := congrArg (fun W => World.cell? W ⟨w.heap.size + 2, 0, none⟩) hW.symm; have fw2_0 := congrArg (fun W => World.frozen? W ⟨w.heap.size + 2, 0, none⟩) hW.symm; have hy2 : w.heap.size + 2 < wn.heap.size := (by omega); have cw2_1 := congrArg (fun W => World.cell? W ⟨w.heap.size + 2, 1, none⟩) hW.symm; have fw2_1 := congrArg (fun W => World.frozen? W ⟨w.heap.size + 2, 1, none⟩) hW.symm; have cw3_0 := congrArg (fun W => World.cell? W ⟨w.heap.size + 3, 0, none⟩) hW.symm; have fw3_0 := congrArg (fun W => World.frozen? W ⟨w.heap.size + 3, 0, none⟩) hW.symm; have hy3 : w.heap.size + 3 < wn.heap.size := (by omega); have cw3_1 := congrArg (fun W => World.cell? W ⟨w.heap.size + 3, 1, none⟩) hW.symm; have fw3_1 := congrArg (fun W => World.frozen? W ⟨w.heap.size + 3, 1, none⟩) hW.symm; have cw3_2 := congrArg (fun W => World.cell? W ⟨w.heap.size + 3, 2, none⟩) hW.symm; have fw3_2 := congrArg (fun W => World.frozen? W ⟨w.heap.size + 3, 2, none⟩) hW.symm; simp [go_sem] at cw0_0 fw0_0 cw0_1 fw0_1 cw1_0 fw1_0 cw1_1 fw1_1 cw1_2 fw1_2 cw2_0 fw2_0 cw2_1 fw2_1 cw3_0 fw3_0 cw3_1 fw3_1 cw3_2 fw3_2; clear hW hzn)
  have HB0 := Lib.hid (show Bx wn w.heap.size [.slice A N.nodes.length c, .slice B N.pipes.length d] from (bx2 (by first | exact hy0 | go_size) (by first | (with_reducible exact cw0_0) | go_cell_look | (simp [go_sem, hy0, cw0_0, fw0_0, cw0_1, fw0_1]; done) | (simp [go_sem]; done)) (by first | (with_reducible exact fw0_0) | (simp only [World.frozen?_setCell, fw0_0]; done) | (simp [go_sem, hy0, cw0_0, fw0_0, cw0_1, fw0_1]; done) | (simp [go_sem]; done)) (by first | (with_reducible exact cw0_1) | go_cell_look | (simp [go_sem, hy0, cw0_0, fw0_0, cw0_1, fw0_1]; done) | (simp [go_sem]; done)) (by first | (with_reducible exact fw0_1) | (simp only [World.frozen?_setCell, fw0_1]; done) | (simp [go_sem, hy0, cw0_0, fw0_0, cw0_1, fw0_1]; done) | (simp [go_sem]; done))))
  have HB1 := Lib.hid (show Bx wn (w.heap.size + 1) [.slice (some aL) ll.length cl, .slice (some aH) lh.length ch, .slice An ln.length cn] from (bx3 (by first | exact hy1 | go_size) (by first | (with_reducible exact cw1_0) | go_cell_look | (simp [go_sem, hy1, cw1_0, fw1_0, cw1_1, fw1_1, cw1_2, fw1_2]; done) | (simp [go_sem]; done)) (by first | (with_reducible exact fw1_0) | (simp only [World.frozen?_setCell, fw1_0]; done) | (simp [go_sem, hy1, cw1_0, fw1_0, cw1_1, fw1_1, cw1_2, fw1_2]; done) | (simp [go_sem]; done)) (by first | (with_reducible exact cw1_1) | go_cell_look | (simp [go_sem, hy1, cw1_0, fw1_0, cw1_1, fw1_1, cw1_2, fw1_2]; done) | (simp [go_sem]; done)) (by first | (with_reducible exact fw1_1) | (simp only [World.frozen?_setCell, fw1_1]; done) | (simp [go_sem, hy1, cw1_0, fw1_0, cw1_1, fw1_1, cw1_2, fw1_2]; done) | (simp [go_sem]; done)) (by first | (with_reducible exact cw1_2) | go_cell_look | (simp [go_sem, hy1, cw1_0, fw1_0, cw1_1, fw1_1, cw1_2, fw1_2]; done) | (simp [go_sem]; done)) (by first | (with_reducible exact fw1_2) | (simp only [World.frozen?_setCell, fw1_2]; done) | (simp [go_sem, hy1, cw1_0, fw1_0, cw1_1, fw1_1, cw1_2, fw1_2]; done) | (simp [go_sem]; done))))
  have HB2 := Lib.hid (show Bx wn (w.heap.size + 2) [.slice x.A x.fl.length x.c, .slice x.B x.su.length x.d] from (bx2 (by first | exact hy2 | go_size) (by first | (with_reducible exact cw2_0) | go_cell_look | (simp [go_sem, hy2, cw2_0, fw2_0, cw2_1, fw2_1]; done) | (simp [go_sem]; done)) (by first | (with_reducible exact fw2_0) | (simp only [World.frozen?_setCell, fw2_0]; done) | (simp [go_sem, hy2, cw2_0, fw2_0, cw2_1, fw2_1]; done) | (simp [go_sem]; done)) (by first | (with_reducible exact cw2_1) | go_cell_look | (simp [go_sem, hy2, cw2_0, fw2_0, cw2_1, fw2_1]; done) | (simp [go_sem]; done)) (by first | (with_reducible exact fw2_1) | (simp only [World.frozen?_setCell, fw2_1]; done) | (simp [go_sem, hy2, cw2_0, fw2_0, cw2_1, fw2_1]; done) | (simp [go_sem]; done))))
  have HB3 := Lib.hid (show Bx wn (w.heap.size + 3) [.slice none 0 0, .slice none 0 0, .slice none 0 0] from (bx3 (by first | exact hy3 | go_size) (by first | (with_reducible exact cw3_0) | go_cell_look | (simp [go_sem, hy3, cw3_0, fw3_0, cw3_1, fw3_1, cw3_2, fw3_2]; done) | (simp [go_sem]; done)) (by first | (with_reducible exact fw3_0) | (simp only [World.frozen?_setCell, fw3_0]; done) | (simp [go_sem, hy3, cw3_0, fw3_0, cw3_1, fw3_1, cw3_2, fw3_2]; done) | (simp [go_sem]; done)) (by first | (with_reducible exact cw3_1) | go_cell_look | (simp [go_sem, hy3, cw3_0, fw3_0, cw3_1, fw3_1, cw3_2, fw3_2]; done) | (simp [go_sem]; done)) (by first | (with_reducible exact fw3_1) | (simp only [World.frozen?_setCell, fw3_1]; done) | (simp [go_sem, hy3, cw3_0, fw3_0, cw3_1, fw3_1, cw3_2, fw3_2]; done) | (simp [go_sem]; done)) (by first | (with_reducible exact cw3_2) | go_cell_look | (simp [go_sem, hy3, cw3_0, fw3_0, cw3_1, fw3_1, cw3_2, fw3_2]; done) | (simp [go_sem]; done)) (by first | (with_reducible exact fw3_2) | (simp only [World.frozen?_setCell, fw3_2]; done) | (simp [go_sem, hy3, cw3_0, fw3_0, cw3_1, fw3_1, cw3_2, fw3_2]; done) | (simp [go_sem]; done))))
  have HBN := Lib.hid hbn
  clear hy0 cw0_0 fw0_0 cw0_1 fw0_1
  clear hy1 cw1_0 fw1_0 cw1_1 fw1_1 cw1_2 fw1_2
  clear hy2 cw2_0 fw2_0 cw2_1 fw2_1
  clear hy3 cw3_0 fw3_0 cw3_1 fw3_1 cw3_2 fw3_2
  clear hbn
  go_loopw [8] (fun v wr => ∃ k : Nat, k ≤ x.fl.length ∧ v = .int .i64 k ∧ limF (x.fl.drop k) (N.pipes.drop k) = limF x.fl N.pipes ∧ Bx wr w.heap.size [.slice A N.nodes.length c, .slice B N.pipes.length d] ∧ Bx wr (w.heap.size + 1) [.slice (some aL) ll.length cl, .slice (some aH) lh.length ch, .slice An ln.length cn] ∧ Bx wr (w.heap.size + 2) [.slice x.A x.fl.length x.c, .slice x.B x.su.length x.d] ∧ Bx wr (w.heap.size + 3) [.slice none 0 0, .slice none 0 0, .slice none 0 0] ∧ Below w.heap.size w wr) (fun v _ => x.fl.length - (intOf v).toNat)
  case atStart => exact ⟨0, by omega, rfl, rfl, HB0.out, HB1.out, HB2.out, HB3.out, HBN.out⟩
  case round =>
    clear HB0 HB1 HB2 HB3 HBN
    obtain ⟨k, hk, rfl, hF, hB0, hB1, hB2, hB3, hbw⟩ := hrel
    have hbH := Lib.hid hbw
    have HF := Lib.hid hF
    have HB0 := Lib.hid hB0
    have HB1 := Lib.hid hB1
    have HB2 := Lib.hid hB2
    have HB3 := Lib.hid hB3
    have hz3 := hB3.lt
    clear hF hB1 hB3
    have hy0 := hB0.lt; have cw0_0 := hB0.cell 0 rfl; have fw0_0 := hB0.frozen 0 rfl; have cw0_1 := hB0.cell 1 rfl; have fw0_1 := hB0.frozen 1 rfl
    have hy2 := hB2.lt; have cw2_0 := hB2.cell 0 rfl; have fw2_0 := hB2.frozen 0 rfl; have cw2_1 := hB2.cell 1 rfl; have fw2_1 := hB2.frozen 1 rfl
    clear hB0 hB2
    by_cases hlt : k < x.fl.length
    · obtain ⟨y, hy⟩ := get_some hlt
      obtain ⟨b2, off2, hAx, hb2, hat2⟩ := HA.out.r1.opened (k := k) (by simp; omega)
      obtain ⟨p, hp⟩ := get_some (show k < N.pipes.length by omega)
      obtain ⟨b, off, hBx, hb, hat⟩ := HN.out.pipes.opened (k := k) (by rw [flat_len Pp.len]; omega)
      have hzw := hbw.size
      obtain ⟨y1, y2⟩ := (hrB_of HX.out).1.2 y (List.mem_of_getElem? hy)
      have q4 := Wd.cell (show b < wr.heap.size by omega) ((hat.below hbw hb).elem Pp.len hp 4 rfl)
      have q5 := Wd.cell (show b2 < wr.heap.size by omega) (ints_at (hat2.below hbw hb2) hy)
      rw [hAx] at cw2_0
      rw [hBx] at cw0_1
      have q6 := Wd.cell (show w.heap.size + 2 < wr.heap.size by omega) cw2_0
      have q7 := Wd.cell (show w.heap.size < wr.heap.size by omega) cw0_1
      have g1 : (k : Int) < N.pipes.length := by omega
      have g2 : (k : Int) < x.fl.length := by omega
      have HST := Lib.hid (limF_step hy hp)
      clear hy hp hat2 hat hbw
      cases p1 : decide (p.lim < absI y)
      · go_wp2_with fail
        refine wp_region_wd (by kernel_rfl) (by kernel_rfl) ?_
        repeat (go_big_quiet_step ((go_at_call 62; exact wd_pure (spec_l01Abs _ _ (by omega) (by omega)))))
        refine wpQuiet_nil ?_
        rintro w2 ⟨⟨w'', hbn⟩, hw''⟩
        obtain rfl : w2 = w'' := hw''
        clear q4 q5 q6 q7
        go_wp2
        go_roundw
        case rel =>
          refine ⟨k + 1, by omega, by go_num, ?_, HB0.out.below hbn (by omega), HB1.out.below hbn (by omega), HB2.out.below hbn (by omega), HB3.out.below hbn (by omega), hbH.out.trans (hbn.mono hbH.out.size)⟩
          rw [← HF.out, HST.out, p1]; rfl
        case measure => simp [intOf]; omega
      · go_wp2_with fail
        refine wp_region_wd (by kernel_rfl) (by kernel_rfl) ?_
        repeat (go_big_quiet_step ((go_at_call 62; exact wd_pure (spec_l01Abs _ _ (by omega) (by omega)))))
        refine wpQuiet_nil ?_
        rintro w2 ⟨⟨w'', hbn⟩, hw''⟩
        obtain rfl : w2 = w'' := hw''
        clear q4 q5 q6 q7
        have hB3 := HB3.out.below hbn (by omega)
        have HR := Lib.hid (stR_no (ll := ll) (lh := lh) (ln := ln) (su := x.su) (show limF x.fl N.pipes = false by rw [← HF.out, HST.out, p1]; rfl))
        have hy3 := hB3.lt; have cw3_0 := hB3.cell 0 rfl; have fw3_0 := hB3.frozen 0 rfl; have cw3_1 := hB3.cell 1 rfl; have fw3_1 := hB3.frozen 1 rfl; have cw3_2 := hB3.cell 2 rfl; have fw3_2 := hB3.frozen 2 rfl
        have HBE := Lib.hid (hbH.out.trans (hbn.mono hbH.out.size))
        clear hB3 hbn
        go_wp2
        refine bodyPost_ret (by simp [results, Try.results32, go_sem, cw3_0, cw3_1, cw3_2]; try rfl) rfl ?_
        rw [HR.out]
        exact ⟨none, none, none, 0, 0, 0, rfl, BufW.nil _ _, by have h1 := HBE.out; (repeat' (first | (with_reducible exact Below.refl _ _) | (with_reducible assumption) | (with_reducible refine Below.alloc ?_ ?_ _) | (with_reducible refine Below.drew ?_) | (with_reducible refine Below.drewN' ?_ _) | (with_reducible refine Below.setCell ?_ ?_ _) | (refine Below.via ?_ (by with_reducible assumption) ?_) | (with_reducible refine Below.via ?_ (Wd.h _) ?_) | go_size))⟩
    · have HR := Lib.hid (stR_yes (ll := ll) (lh := lh) (ln := ln) (su := x.su) (show limF x.fl N.pipes = true by rw [← HF.out]; exact limF_end' hlt))
      obtain ⟨nx, hnx⟩ : ∃ nx, nx = nextL N ln x.su x.fl := ⟨_, rfl⟩
      have HL := Lib.hid HK.out.l3
      have HNX := Lib.hid hnx
      have hnl : nx.length = ln.length := by rw [hnx, nextL_len HK.out.l3 (hrB_of HX.out).2.1, HK.out.l3]
      have l3 : nx.length ≤ ln.length := by omega
      have l4 : ln.length ≤ nx.length := by omega
      have l5 : ln.length ≤ 24 := by rw [HL.out]; omega
      have l6 : 1 ≤ ln.length := by rw [HL.out]; omega
      have l7 : 1 ≤ ll.length := by rw [HK.out.l1]; omega
      have l8 : 1 ≤ lh.length := by rw [HK.out.l2]; omega
      have l9 := HFb.out.s1
      have l10 := HFb.out.s2
      have b1 := HB1.out
      have hy1 := b1.lt; have cw1_0 := b1.cell 0 rfl; have fw1_0 := b1.frozen 0 rfl; have cw1_1 := b1.cell 1 rfl; have fw1_1 := b1.frozen 1 rfl; have cw1_2 := b1.cell 2 rfl; have fw1_2 := b1.frozen 2 rfl
      clear b1 hnx hnl
      have hR1 := HFb.out.r1.below hbw
      have hR2 := HFb.out.r2.below hbw
      have HR1 := Lib.hid hR1
      have HR2 := Lib.hid hR2
      clear hR1 hR2 hbw
      go_wp2_with fail
      go_cut [9] (fun s9 wx => ∃ g A1 A2 A3 c1 c2 c3, s9 = .pointer (some ⟨g, 0, none⟩) ∧ w.heap.size + 4 ≤ g ∧ Bx wx g [.slice A1 ll.length c1, .slice A2 lh.length c2, .slice A3 ln.length c3] ∧ BufW (w.heap.size + 4) wx A1 A2 A3 ll lh nx ∧ Below wr.heap.size wr wx)
      case first =>
        refine wp_region_inv' (fun L a wx => ∃ D : SD, a = ⟨#[netV A B N.nodes.length c N.pipes.length d, bufV (some aL) (some aH) An ll.length lh.length ln.length cl ch cn, x.val, .pointer (some ⟨w.heap.size, 0, none⟩), .pointer (some ⟨w.heap.size + 1, 0, none⟩), .pointer (some ⟨w.heap.size + 1 + 1, 0, none⟩), .pointer (some ⟨w.heap.size + 1 + 1 + 1, 0, none⟩), u7, .int .i64 k, D.u 9, .int .i64 k, .pointer (some ⟨w.heap.size + 1 + 1, 0, none⟩), .slice x.A x.fl.length x.c, .int .i64 x.fl.length, .bool false, u15, u16, u17, u18, u19, u20, u21, u22, u23, u24, u25, u26, u27, u28, u29, u30, D.u 31, D.u 32, D.u 33, D.u 34, D.u 35, D.u 36, D.u 37, D.u 38, D.u 39, D.u 40, D.u 41, D.u 42, D.u 43, D.u 44, undef, undef, undef, undef], []⟩ ∧ ((L 15 = false ∧ SI L D (fun | 32 => .pointer (some ⟨w.heap.size + 1, 0, none⟩) | 33 => .slice (some aL) ll.length cl | 36 => .pointer (some ⟨w.heap.size + 1, 1, none⟩) | 37 => .slice (some aH) lh.length ch | 39 => netV A B N.nodes.length c N.pipes.length d | 40 => .pointer (some ⟨w.heap.size + 1, 2, none⟩) | 41 => .slice An ln.length cn | 42 => x.val | _ => undef) (fun | 34 => ll | 38 => lh | _ => nx) wr.heap.size wr wx) ∨ ((∀ i, i < 16 → L i = true) ∧ ∃ A1 A2 A3 c1 c2 c3, D.u 9 = .pointer (some ⟨D.g, 0, none⟩) ∧ w.heap.size + 4 ≤ D.g ∧ Bx wx D.g [.slice A1 ll.length c1, .slice A2 lh.length c2, .slice A3 ln.length c3] ∧ BufW (w.heap.size + 4) wx A1 A2 A3 ll lh nx ∧ Below wr.heap.size wr wx))) (by kernel_rfl) (by kernel_rfl) ?_ ?_ ?_
        · exact ⟨⟨fun _ => undef, 0, fun _ => 0, fun _ => 0, fun _ => 0, fun _ => none⟩, rfl, .inl ⟨rfl, SI.start (Below.drew (Below.refl _ _)) (Nat.le_refl _)⟩⟩
        · intro i hi L a wx hl hp hI
          obtain ⟨D, rfl, hI⟩ := hI
          rcases hI with ⟨n15, hS⟩ | ⟨hall, _⟩
          · have hbl := hS.bl
            have hz := hS.sz
            have bb0 := HB0.out.below hbl (by omega)
            have bb1 := HB1.out.below hbl (by omega)
            have bb2 := HB2.out.below hbl (by omega)
            have x0 := bb0.cell 0 rfl
            have x1 := bb0.cell 1 rfl
            have x2 := bb1.cell 0 rfl
            have x3 := bb1.cell 1 rfl
            have x4 := bb1.cell 2 rfl
            have x5 := bb2.cell 0 rfl
            have x6 := bb2.cell 1 rfl
            have hi : i < 16 := hi
            have hi : i = 0 ∨ i = 1 ∨ i = 2 ∨ i = 3 ∨ i = 4 ∨ i = 5 ∨ i = 6 ∨ i = 7 ∨ i = 8 ∨ i = 9 ∨ i = 10 ∨ i = 11 ∨ i = 12 ∨ i = 13 ∨ i = 14 ∨ i = 15 := by omega
            rcases hi with rfl | rfl | rfl | rfl | rfl | rfl | rfl | rfl | rfl | rfl | rfl | rfl | rfl | rfl | rfl | rfl
            · refine wpOp_go (E := True) rfl rfl (fun K' hK => ?_)
              go_simp
              refine hK.out _ _ ?_; exact ⟨D.put 31 _, (by simp only [SD.put, SD.made, SD.boxed]; first | rfl | (simp [*]; done)), .inl ⟨by simp [upd, n15], SI.e_ (i := 0) (hS.below (by (repeat' (first | (with_reducible exact Below.refl _ _) | (with_reducible assumption) | (with_reducible refine Below.alloc ?_ ?_ _) | (with_reducible refine Below.drew ?_) | (with_reducible refine Below.drewN' ?_ _) | (with_reducible refine Below.setCell ?_ ?_ _) | (refine Below.via ?_ (by with_reducible assumption) ?_) | (with_reducible refine Below.via ?_ (Wd.h _) ?_) | go_size)))) (by simp) ⟨_, rfl⟩⟩⟩
            · refine wpOp_go (E := True) rfl rfl (fun K' hK => ?_)
              go_simp
              refine hK.out _ _ ?_; exact ⟨D.put 32 _, (by simp only [SD.put, SD.made, SD.boxed]; first | rfl | (simp [*]; done)), .inl ⟨by simp [upd, n15], hS.lit_ (i := 1) (t := 32) (by simp [lits])⟩⟩
            · refine wpOp_go (E := True) rfl rfl (fun K' hK => ?_)
              simp [before, Region.binds] at hp
              have e : D.u 32 = _ := hS.lit (1, 32) (by simp [lits]) hp
              dsimp only at e
              go_simp
              refine hK.out _ _ ?_; exact ⟨D.put 33 _, (by simp only [SD.put, SD.made, SD.boxed]; first | rfl | (simp [*]; done)), .inl ⟨by simp [upd, n15], hS.lit_ (i := 2) (t := 33) (by simp [lits])⟩⟩
            · refine wpOp_go (E := True) rfl rfl (fun K' hK => ?_)
              simp [before, Region.binds] at hp
              obtain ⟨ao, e⟩ := hS.e0 hp.1
              have e' : D.u 33 = _ := hS.lit (2, 33) (by simp [lits]) hp.2
              dsimp only at e'
              refine app0 rfl (.tmp 31) (.tmp 33) 28 rfl info_i64 Try.underlying28 rfl (by omega) (by omega) ao e aL ll.length cl (ll.map iV) e' (by simp) (HR1.out.below (by (repeat' (first | (with_reducible exact Below.refl _ _) | (with_reducible assumption) | (with_reducible refine Below.alloc ?_ ?_ _) | (with_reducible refine Below.drew ?_) | (with_reducible refine Below.drewN' ?_ _) | (with_reducible refine Below.setCell ?_ ?_ _) | (refine Below.via ?_ (by with_reducible assumption) ?_) | (with_reducible refine Below.via ?_ (Wd.h _) ?_) | go_size)))) (iV_one ll) (by omega) (by omega) ?_
              intro v1 w1 hO1 hb1
              obtain ⟨G1, c1, rfl, hc1, hW1⟩ := hO1.lt_
              rw [Nat.mul_one] at hW1
              refine hK.out _ _ ?_; exact ⟨D.made 34 _ wx.heap.size w1.heap.size c1 G1, (by simp only [SD.put, SD.made, SD.boxed]; first | rfl | (simp [*]; done)), .inl ⟨by simp [upd, n15], hS.m_ (i := 3) (t := 34) (by simp [mks]) hl ⟨fun x => (by cases x), fun x => (by cases x)⟩ hb1 (IW.of hW1 hb1.size)⟩⟩
            · refine wpOp_go (E := True) rfl rfl (fun K' hK => ?_)
              go_simp
              refine hK.out _ _ ?_; exact ⟨D.put 35 _, (by simp only [SD.put, SD.made, SD.boxed]; first | rfl | (simp [*]; done)), .inl ⟨by simp [upd, n15], SI.e_ (i := 4) (hS.below (by (repeat' (first | (with_reducible exact Below.refl _ _) | (with_reducible assumption) | (with_reducible refine Below.alloc ?_ ?_ _) | (with_reducible refine Below.drew ?_) | (with_reducible refine Below.drewN' ?_ _) | (with_reducible refine Below.setCell ?_ ?_ _) | (refine Below.via ?_ (by with_reducible assumption) ?_) | (with_reducible refine Below.via ?_ (Wd.h _) ?_) | go_size)))) (by simp) ⟨_, rfl⟩⟩⟩
            · refine wpOp_go (E := True) rfl rfl (fun K' hK => ?_)
              go_simp
              refine hK.out _ _ ?_; exact ⟨D.put 36 _, (by simp only [SD.put, SD.made, SD.boxed]; first | rfl | (simp [*]; done)), .inl ⟨by simp [upd, n15], hS.lit_ (i := 5) (t := 36) (by simp [lits])⟩⟩
            · refine wpOp_go (E := True) rfl rfl (fun K' hK => ?_)
              simp [before, Region.binds] at hp
              have e : D.u 36 = _ := hS.lit (5, 36) (by simp [lits]) hp
              dsimp only at e
              go_simp
              refine hK.out _ _ ?_; exact ⟨D.put 37 _, (by simp only [SD.put, SD.made, SD.boxed]; first | rfl | (simp [*]; done)), .inl ⟨by simp [upd, n15], hS.lit_ (i := 6) (t := 37) (by simp [lits])⟩⟩
            · refine wpOp_go (E := True) rfl rfl (fun K' hK => ?_)
              simp [before, Region.binds] at hp
              obtain ⟨ao, e⟩ := hS.e4 hp.1
              have e' : D.u 37 = _ := hS.lit (6, 37) (by simp [lits]) hp.2.1
              dsimp only at e'
              refine app0 rfl (.tmp 35) (.tmp 37) 28 rfl info_i64 Try.underlying28 rfl (by omega) (by omega) ao e aH lh.length ch (lh.map iV) e' (by simp) (HR2.out.below (by (repeat' (first | (with_reducible exact Below.refl _ _) | (with_reducible assumption) | (with_reducible refine Below.alloc ?_ ?_ _) | (with_reducible refine Below.drew ?_) | (with_reducible refine Below.drewN' ?_ _) | (with_reducible refine Below.setCell ?_ ?_ _) | (refine Below.via ?_ (by with_reducible assumption) ?_) | (with_reducible refine Below.via ?_ (Wd.h _) ?_) | go_size)))) (iV_one lh) (by omega) (by omega) ?_
              intro v1 w1 hO1 hb1
              obtain ⟨G1, c1, rfl, hc1, hW1⟩ := hO1.lt_
              rw [Nat.mul_one] at hW1
              refine hK.out _ _ ?_; exact ⟨D.made 38 _ wx.heap.size w1.heap.size c1 G1, (by simp only [SD.put, SD.made, SD.boxed]; first | rfl | (simp [*]; done)), .inl ⟨by simp [upd, n15], hS.m_ (i := 7) (t := 38) (by simp [mks]) hl ⟨fun x => hp.2.2, fun x => (by cases x)⟩ hb1 (IW.of hW1 hb1.size)⟩⟩
            · refine wpOp_go (E := True) rfl rfl (fun K' hK => ?_)
              go_simp
              refine hK.out _ _ ?_; exact ⟨D.put 39 _, (by simp only [SD.put, SD.made, SD.boxed]; first | rfl | (simp [*]; done)), .inl ⟨by simp [upd, n15], hS.lit_ (i := 8) (t := 39) (by simp [lits])⟩⟩
            · refine wpOp_go (E := True) rfl rfl (fun K' hK => ?_)
              go_simp
              refine hK.out _ _ ?_; exact ⟨D.put 40 _, (by simp only [SD.put, SD.made, SD.boxed]; first | rfl | (simp [*]; done)), .inl ⟨by simp [upd, n15], hS.lit_ (i := 9) (t := 40) (by simp [lits])⟩⟩
            · refine wpOp_go (E := True) rfl rfl (fun K' hK => ?_)
              simp [before, Region.binds] at hp
              have e : D.u 40 = _ := hS.lit (9, 40) (by simp [lits]) hp
              dsimp only at e
              go_simp
              refine hK.out _ _ ?_; exact ⟨D.put 41 _, (by simp only [SD.put, SD.made, SD.boxed]; first | rfl | (simp [*]; done)), .inl ⟨by simp [upd, n15], hS.lit_ (i := 10) (t := 41) (by simp [lits])⟩⟩
            · refine wpOp_go (E := True) rfl rfl (fun K' hK => ?_)
              go_simp
              refine hK.out _ _ ?_; exact ⟨D.put 42 _, (by simp only [SD.put, SD.made, SD.boxed]; first | rfl | (simp [*]; done)), .inl ⟨by simp [upd, n15], hS.lit_ (i := 11) (t := 42) (by simp [lits])⟩⟩
            · refine wpOp_go (E := True) rfl rfl (fun K' hK => ?_)
              simp [before, Region.binds] at hp
              have e39 : D.u 39 = _ := hS.lit (8, 39) (by simp [lits]) hp.1
              dsimp only at e39
              have e41 : D.u 41 = _ := hS.lit (10, 41) (by simp [lits]) hp.2.1
              dsimp only at e41
              have e42 : D.u 42 = _ := hS.lit (11, 42) (by simp [lits]) hp.2.2.1
              dsimp only at e42
              go_simp
              go_at_call 63
              refine (spec_l19Next _ _ _ _ _ _ _ _ _ N ln x _ (HN.out.below (by have h1 := hbH.out; (repeat' (first | (with_reducible exact Below.refl _ _) | (with_reducible assumption) | (with_reducible refine Below.alloc ?_ ?_ _) | (with_reducible refine Below.drew ?_) | (with_reducible refine Below.drewN' ?_ _) | (with_reducible refine Below.setCell ?_ ?_ _) | (refine Below.via ?_ (by with_reducible assumption) ?_) | (with_reducible refine Below.via ?_ (Wd.h _) ?_) | go_size)))) rfl rfl HO.out (HFb.out.r3.below (by have h1 := hbH.out; (repeat' (first | (with_reducible exact Below.refl _ _) | (with_reducible assumption) | (with_reducible refine Below.alloc ?_ ?_ _) | (with_reducible refine Below.drew ?_) | (with_reducible refine Below.drewN' ?_ _) | (with_reducible refine Below.setCell ?_ ?_ _) | (refine Below.via ?_ (by with_reducible assumption) ?_) | (with_reducible refine Below.via ?_ (Wd.h _) ?_) | go_size)))) rfl (HA.out.below (by have h1 := hbH.out; (repeat' (first | (with_reducible exact Below.refl _ _) | (with_reducible assumption) | (with_reducible refine Below.alloc ?_ ?_ _) | (with_reducible refine Below.drew ?_) | (with_reducible refine Below.drewN' ?_ _) | (with_reducible refine Below.setCell ?_ ?_ _) | (refine Below.via ?_ (by with_reducible assumption) ?_) | (with_reducible refine Below.via ?_ (Wd.h _) ?_) | go_size)))) HX.out HL.out (buf_now HK.out)).mono ?_
              rintro e w3 ⟨G3, c3, rfl, hc3, hW3, hb3⟩
              rw [Nat.mul_one, ← HNX.out] at hW3
              have e4 : ln.length = nx.length := by omega
              rw [e4] at hW3
              refine hK.out _ _ ?_
              refine ⟨D.made 43 (.slice G3 nx.length c3) wx.heap.size w3.heap.size c3 G3, ?_, .inl ⟨by simp [upd, n15], hS.m_ (i := 12) (t := 43) (by simp [mks]) hl ⟨fun x => (by cases x), fun x => hp.2.2.2⟩ hb3 (IW.of hW3 hb3.size)⟩⟩
              simp only [SD.made]
              rw [← e4]
              simp [e39, e41, e42]
            · refine wpOp_go (E := True) rfl rfl (fun K' hK => ?_)
              simp [before, Region.binds] at hp
              have n12 := hp.2.2
              have n7 := hp.2.1
              have n3 := hp.1
              have m1 := (hS.m (3, 34) (by simp [mks]) n3).1
              have m2 := (hS.m (7, 38) (by simp [mks]) n7).1
              have m3 := (hS.m (12, 43) (by simp [mks]) n12).1
              dsimp only at m1 m2 m3
              go_simp
              refine hK.out _ _ ?_; exact ⟨D.put 44 (.agg #[D.u 34, D.u 38, D.u 43]), (by simp only [SD.put, SD.made, SD.boxed]; first | rfl | (simp [*]; done)), .inl ⟨by simp [upd, n15], hS.a_ hp.2.2⟩⟩
            · refine wpOp_go (E := True) rfl rfl (fun K' hK => ?_)
              go_simp
              refine hK.out _ _ ?_
              exact ⟨D.boxed _ wx.heap.size, (by simp only [SD.put, SD.made, SD.boxed]; first | rfl | (simp [*]; done)), .inl ⟨by simp [upd, n15], hS.b_ (y0 := .slice none 0 0) (y1 := .slice none 0 0) (y2 := .slice none 0 0) hl (by (repeat' (first | (with_reducible exact Below.refl _ _) | (with_reducible assumption) | (with_reducible refine Below.alloc ?_ ?_ _) | (with_reducible refine Below.drew ?_) | (with_reducible refine Below.drewN' ?_ _) | (with_reducible refine Below.setCell ?_ ?_ _) | (refine Below.via ?_ (by with_reducible assumption) ?_) | (with_reducible refine Below.via ?_ (Wd.h _) ?_) | go_size))) (bx3 (by simp) (by simp) (by simp) (by simp) (by simp) (by simp) (by simp))⟩⟩
            · refine wpOp_go (E := True) rfl rfl (fun K' hK => ?_)
              simp [before, Region.binds] at hp
              obtain ⟨h14, h13, h12, hrest⟩ := hp
              obtain ⟨f9, fg, ⟨y0, y1, y2, fb⟩, f44, fB, fa⟩ := hS.last h13 h14
              have n12 := hS.c13 h13
              have n7 := hS.c12 n12
              have n3 := hS.c7 n7
              have m1 := (hS.m (3, 34) (by simp [mks]) n3).1
              have m2 := (hS.m (7, 38) (by simp [mks]) n7).1
              have m3 := (hS.m (12, 43) (by simp [mks]) n12).1
              dsimp only at m1 m2 m3
              have k0 := fb.cell 0 rfl
              have k1 := fb.cell 1 rfl
              have k2 := fb.cell 2 rfl
              have z0 := fb.frozen 0 rfl
              have z1 := fb.frozen 1 rfl
              have z2 := fb.frozen 2 rfl
              go_simp
              refine hK.out _ _ ?_
              refine ⟨D, (by simp only [SD.put, SD.made, SD.boxed]; first | rfl | (simp [*]; done)), .inr ⟨?_, D.G 34, D.G 38, D.G 43, D.c 34, D.c 38, D.c 43, f9, by omega, ?_, ?_, ?_⟩⟩
              · intro j hj
                have hj : j = 0 ∨ j = 1 ∨ j = 2 ∨ j = 3 ∨ j = 4 ∨ j = 5 ∨ j = 6 ∨ j = 7 ∨ j = 8 ∨ j = 9 ∨ j = 10 ∨ j = 11 ∨ j = 12 ∨ j = 13 ∨ j = 14 ∨ j = 15 := by omega
                rcases hj with rfl | rfl | rfl | rfl | rfl | rfl | rfl | rfl | rfl | rfl | rfl | rfl | rfl | rfl | rfl | rfl <;> simp [upd, *]
              · have fl := fb.lt
                exact bx3 (by simpa using fl) (by simp [go_sem, k0, k1, k2]; try omega) (by simp [z0, z1, z2]) (by simp [go_sem, k0, k1, k2]; try omega) (by simp [z0, z1, z2]) (by simp [go_sem, k0, k1, k2]; try omega) (by simp [z0, z1, z2])
              · have a1 := fa 34 (by simp)
                have a2 := fa 38 (by simp)
                have a3 := fa 43 (by simp)
                exact BufW.lower (BufW.setx (BufW.setx (BufW.setx fB a1 a2 a3 _) a1 a2 a3 _) a1 a2 a3 _) (by omega)
              · (repeat' (first | (with_reducible exact Below.refl _ _) | (with_reducible assumption) | (with_reducible refine Below.alloc ?_ ?_ _) | (with_reducible refine Below.drew ?_) | (with_reducible refine Below.drewN' ?_ _) | (with_reducible refine Below.setCell ?_ ?_ _) | (refine Below.via ?_ (by with_reducible assumption) ?_) | (with_reducible refine Below.via ?_ (Wd.h _) ?_) | go_size))
          · have := hall i hi
            rw [this] at hl; cases hl
        · intro L a wx hall hI
          obtain ⟨D, rfl, hI⟩ := hI
          rcases hI with ⟨n15, _⟩ | ⟨_, A1, A2, A3, c1, c2, c3, g1, g2, g3, g4, g5⟩
          · have := hall 15 (by show 15 < 16; omega)
            rw [this] at n15; cases n15
          · go_wp2_with fail
            go_meet
            exact ⟨D.g, A1, A2, A3, c1, c2, c3, g1, g2, g3, g4, g5⟩
      case rest =>
        obtain ⟨g, A1, A2, A3, c1, c2, c3, rfl, hg, hgx, hW, hbc⟩ := hcut
        have HW := Lib.hid hW
        have b0 := HB0.out.below hbc (by omega)
        have b1 := HB1.out.below hbc (by omega)
        have b2 := HB2.out.below hbc (by omega)
        have b3 := HB3.out.below hbc (by omega)
        clear hy1 cw1_0 fw1_0 cw1_1 fw1_1 cw1_2 fw1_2
        have hy0 := b0.lt; have cw0_0 := b0.cell 0 rfl; have fw0_0 := b0.frozen 0 rfl; have cw0_1 := b0.cell 1 rfl; have fw0_1 := b0.frozen 1 rfl
        have hy1 := b1.lt; have cw1_0 := b1.cell 0 rfl; have fw1_0 := b1.frozen 0 rfl; have cw1_1 := b1.cell 1 rfl; have fw1_1 := b1.frozen 1 rfl; have cw1_2 := b1.cell 2 rfl; have fw1_2 := b1.frozen 2 rfl
        have hy2 := b2.lt; have cw2_0 := b2.cell 0 rfl; have fw2_0 := b2.frozen 0 rfl; have cw2_1 := b2.cell 1 rfl; have fw2_1 := b2.frozen 1 rfl
        have hy3 := b3.lt; have cw3_0 := b3.cell 0 rfl; have fw3_0 := b3.frozen 0 rfl; have cw3_1 := b3.cell 1 rfl; have fw3_1 := b3.frozen 1 rfl; have cw3_2 := b3.cell 2 rfl; have fw3_2 := b3.frozen 2 rfl
        have hy_cx := hgx.lt
        have cx_0 := hgx.cell 0 rfl
        have cx_1 := hgx.cell 1 rfl
        have cx_2 := hgx.cell 2 rfl
        have cx_0f := hgx.frozen 0 rfl
        have cx_1f := hgx.frozen 1 rfl
        have cx_2f := hgx.frozen 2 rfl
        have hne1 : ¬ g = w.heap.size + 3 := by omega
        have hne2 : ¬ w.heap.size + 3 = g := by omega
        have HBF := Lib.hid (hW.at_ (by omega) (by omega) (by omega))
        have HBC := Lib.hid (hbH.out.trans (hbc.mono hbH.out.size))
        have HN2 := Lib.hid (show N.nodes.length ≤ 1048576 by omega)
        clear hW hgx b0 b1 b2 b3 hbc
        go_wp2_with fail
        
        
        (go_region_held3 (fun w' => w'.cell? ⟨w.heap.size, 0, none⟩ = some (.slice A N.nodes.length c) ∧ w'.cell? ⟨w.heap.size, 1, none⟩ = some (.slice B N.pipes.length d) ∧ w'.cell? ⟨g, 0, none⟩ = some (.slice A1 ll.length c1) ∧ w'.cell? ⟨g, 1, none⟩ = some (.slice A2 lh.length c2) ∧ w'.cell? ⟨g, 2, none⟩ = some (.slice A3 ln.length c3)) (first | exact ⟨cw0_0, cw0_1, cx_0, cx_1, cx_2⟩ | (simp [go_sem, cw0_0, cw0_1, cx_0, cx_1, cx_2, hne1, hne2]; done) | go_keep) (first
          | (go_at_call 59; ((with_reducible refine (spec_l19Is _ _ _ _ _ _ _ _ _ _ _ _ _ _ _ ll lh nx _ HN2.out (HBF.out.below (by (repeat' (first | (with_reducible exact Below.refl _ _) | (with_reducible assumption) | (with_reducible refine Below.alloc ?_ ?_ _) | (with_reducible refine Below.drew ?_) | (with_reducible refine Below.drewN' ?_ _) | (with_reducible refine Below.setCell ?_ ?_ _) | (refine Below.via ?_ (by with_reducible assumption) ?_) | (with_reducible refine Below.via ?_ (Wd.h _) ?_) | go_size)))) rfl rfl (by omega)).mono ?_)); rintro e w7 ⟨rfl, hb7⟩; (obtain ⟨hcn, hfn⟩ := bcell hb7; have hz7 := hb7.size; (try simp at hz7); have Ncw0_0 := hcn (w.heap.size) (0) (by first | omega | (simp; done) | (simp; omega)); have Nfw0_0 := hfn (w.heap.size) (0) (by first | omega | (simp; done) | (simp; omega)); have Nhy0 : w.heap.size < w7.heap.size := (by omega); have Ncw0_1 := hcn (w.heap.size) (1) (by first | omega | (simp; done) | (simp; omega)); have Nfw0_1 := hfn (w.heap.size) (1) (by first | omega | (simp; done) | (simp; omega)); have Ncw1_0 := hcn (w.heap.size + 1) (0) (by first | omega | (simp; done) | (simp; omega)); have Nfw1_0 := hfn (w.heap.size + 1) (0) (by first | omega | (simp; done) | (simp; omega)); have Nhy1 : w.heap.size + 1 < w7.heap.size := (by omega); have Ncw1_1 := hcn (w.heap.size + 1) (1) (by first | omega | (simp; done) | (simp; omega)); have Nfw1_1 := hfn (w.heap.size + 1) (1) (by first | omega | (simp; done) | (simp; omega)); have Ncw1_2 := hcn (w.heap.size + 1) (2) (by first | omega | (simp; done) | (simp; omega)); have Nfw1_2 := hfn (w.heap.size + 1) (2) (by first | omega | (simp; done) | (simp; omega)); have Ncw2_0 := hcn (w.heap.size + 2) (0) (by first | omega | (simp; done) | (simp; omega)); have Nfw2_0 := hfn (w.heap.size + 2) (0) (by first | omega | (simp; done) | (simp; omega)); have Nhy2 : w.heap.size + 2 < w7.heap.size := (by omega); have Ncw2_1 := hcn (w.heap.size + 2) (1) (by first | omega | (simp; done) | (simp; omega)); have Nfw2_1 := hfn (w.heap.size + 2) (1) (by first | omega | (simp; done) | (simp; omega)); have Ncw3_0 := hcn (w.heap.size + 3) (0) (by first | omega | (simp; done) | (simp; omega)); have Nfw3_0 := hfn (w.heap.size + 3) (0) (by first | omega | (simp; done) | (simp; omega)); have Nhy3 : w.heap.size + 3 < w7.heap.size := (by omega); have Ncw3_1 := hcn (w.heap.size + 3) (1) (by first | omega | (simp; done) | (simp; omega)); have Nfw3_1 := hfn (w.heap.size + 3) (1) (by first | omega | (simp; done) | (simp; omega)); have Ncw3_2 := hcn (w.heap.size + 3) (2) (by first | omega | (simp; done) | (simp; omega)); have Nfw3_2 := hfn (w.heap.size + 3) (2) (by first | omega | (simp; done) | (simp; omega)); have Ncx_0 := hcn (g) (0) (by first | omega | (simp; done) | (simp; omega)); have Ncx_0f := hfn (g) (0) (by first | omega | (simp; done) | (simp; omega)); have Nhy_cx : g < w7.heap.size := (by omega); have Ncx_1 := hcn (g) (1) (by first | omega | (simp; done) | (simp; omega)); have Ncx_1f := hfn (g) (1) (by first | omega | (simp; done) | (simp; omega)); have Ncx_2 := hcn (g) (2) (by first | omega | (simp; done) | (simp; omega)); have Ncx_2f := hfn (g) (2) (by first | omega | (simp; done) | (simp; omega)); simp [go_sem, cw0_0, fw0_0, cw0_1, fw0_1, cw1_0, fw1_0, cw1_1, fw1_1, cw1_2, fw1_2, cw2_0, fw2_0, cw2_1, fw2_1, cw3_0, fw3_0, cw3_1, fw3_1, cw3_2, fw3_2, cx_0, cx_0f, cx_1, cx_1f, cx_2, cx_2f, hy0, hy1, hy2, hy3, hy_cx] at Ncw0_0 Nfw0_0 Ncw0_1 Nfw0_1 Ncw1_0 Nfw1_0 Ncw1_1 Nfw1_1 Ncw1_2 Nfw1_2 Ncw2_0 Nfw2_0 Ncw2_1 Nfw2_1 Ncw3_0 Nfw3_0 Ncw3_1 Nfw3_1 Ncw3_2 Nfw3_2 Ncx_0 Ncx_0f Ncx_1 Ncx_1f Ncx_2 Ncx_2f; clear cw0_0 fw0_0 cw0_1 fw0_1 cw1_0 fw1_0 cw1_1 fw1_1 cw1_2 fw1_2 cw2_0 fw2_0 cw2_1 fw2_1 cw3_0 fw3_0 cw3_1 fw3_1 cw3_2 fw3_2 cx_0 cx_0f cx_1 cx_1f cx_2 cx_2f hy0 hy1 hy2 hy3 hy_cx; clear hcn hfn; have cw0_0 := Ncw0_0; have fw0_0 := Nfw0_0; have cw0_1 := Ncw0_1; have fw0_1 := Nfw0_1; have cw1_0 := Ncw1_0; have fw1_0 := Nfw1_0; have cw1_1 := Ncw1_1; have fw1_1 := Nfw1_1; have cw1_2 := Ncw1_2; have fw1_2 := Nfw1_2; have cw2_0 := Ncw2_0; have fw2_0 := Nfw2_0; have cw2_1 := Ncw2_1; have fw2_1 := Nfw2_1; have cw3_0 := Ncw3_0; have fw3_0 := Nfw3_0; have cw3_1 := Ncw3_1; have fw3_1 := Nfw3_1; have cw3_2 := Ncw3_2; have fw3_2 := Nfw3_2; have cx_0 := Ncx_0; have cx_0f := Ncx_0f; have cx_1 := Ncx_1; have cx_1f := Ncx_1f; have cx_2 := Ncx_2; have cx_2f := Ncx_2f; have hy0 := Nhy0; have hy1 := Nhy1; have hy2 := Nhy2; have hy3 := Nhy3; have hy_cx := Nhy_cx; clear Ncw0_0 Nfw0_0 Ncw0_1 Nfw0_1 Ncw1_0 Nfw1_0 Ncw1_1 Nfw1_1 Ncw1_2 Nfw1_2 Ncw2_0 Nfw2_0 Ncw2_1 Nfw2_1 Ncw3_0 Nfw3_0 Ncw3_1 Nfw3_1 Ncw3_2 Nfw3_2 Ncx_0 Ncx_0f Ncx_1 Ncx_1f Ncx_2 Ncx_2f Nhy0 Nhy1 Nhy2 Nhy3 Nhy_cx))))
        all_goals
          have hBC := HBC.out
          have hyd : w.heap.size ≤ wc.drew.heap.size := HBC.out.size
          go_wp2
          refine bodyPost_ret (by simp [results, Try.results32, go_sem, cw3_0, cw3_1, cw3_2]; try rfl) rfl ?_
          rw [HR.out, ← HNX.out]
          have e4 : ln.length = nx.length := by omega
          refine ⟨A1, A2, A3, c1, c2, c3, ?_, BufW.lower (base := w.heap.size + 4) (BufW.set_ (BufW.set_ (BufW.set_ (HW.out.below (by (repeat' (first | (with_reducible exact Below.refl _ _) | (with_reducible assumption) | (with_reducible refine Below.alloc ?_ ?_ _) | (with_reducible refine Below.drew ?_) | (with_reducible refine Below.drewN' ?_ _) | (with_reducible refine Below.setCell ?_ ?_ _) | (refine Below.via ?_ (by with_reducible assumption) ?_) | (with_reducible refine Below.via ?_ (Wd.h _) ?_) | go_size)))) (by simp) _) (by simp) _) (by simp) _) (by omega), by (repeat' (first | (with_reducible exact Below.refl _ _) | (with_reducible assumption) | (with_reducible refine Below.alloc ?_ ?_ _) | (with_reducible refine Below.drew ?_) | (with_reducible refine Below.drewN' ?_ _) | (with_reducible refine Below.setCell ?_ ?_ _) | (refine Below.via ?_ (by with_reducible assumption) ?_) | (with_reducible refine Below.via ?_ (Wd.h _) ?_) | go_size))⟩
          show Ending.returned (.tuple #[.agg #[.slice A1 ll.length c1, .slice A2 lh.length c2, .slice A3 ln.length c3], .bool (bufB N.nodes.length ll lh nx)]) = .returned (.tuple #[.agg #[.slice A1 ll.length c1, .slice A2 lh.length c2, .slice A3 nx.length c3], .bool (bufB N.nodes.length ll lh nx)])
          rw [e4]
end Go.Proofs.Ytijhadafmhbceaa
